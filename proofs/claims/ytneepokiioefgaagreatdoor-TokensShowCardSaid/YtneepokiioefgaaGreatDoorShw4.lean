/- Any token is shown right, and known for a jump or none: the law TokensShow answers true at every token and every name that its row admits. This is part 4 of 6: what the session's printing program wrote for the functions reached, and the session's own lemmas. -/
import Derived.Shelf.Small.Bits
import Derived.Test.YtneepokiioefgaaGreatDoorProg
import Derived.Test.YtneepokiioefgaaGreatDoorShw2
import Derived.Test.YtneepokiioefgaaGreatDoorShw3
set_option maxHeartbeats 32000000
set_option linter.unusedVariables false
set_option linter.unusedSimpArgs false
set_option maxHeartbeats 32000000
set_option linter.unusedVariables false
set_option linter.unusedSimpArgs false
namespace Go.Flt
end Go.Flt
namespace Go.Proofs.YtneepokiioefgaaGreatDoor.PNat
open Go.RowKit YtneepokiioefgaaGreatDoorW.PrintWords YtneepokiioefgaaGreatDoorW.PrintLast YtneepokiioefgaaGreatDoorW.PrintMore
attribute [local go_sem] max2_int min2_int max_two min_two max_three min_three max_four min_four
mutual
def nat_Divide.j0 : Nat → List Int → List Int → Bool → Option (List Int × List Int × Int)
 | 0, _, _, _ => none
 | k + 1, x0, x1, x22 => if x22 = true then (some (([] : List Int), ([] : List Int), 2)) else ((nat_trim.f k x0).bind fun t534 => ((nat_trim.f k x1).bind fun t537 => (if (t537.length : Int) = 0 then (some (([] : List Int), ([] : List Int), 1)) else ((nat_Compare.f k t534 t537).bind fun t540 => (if t540 < 0 then ((slices_Clone_uint32_uint32.f t534).bind fun t541 => (some (([] : List Int), t541, 0))) else (if (t537.length : Int) = 1 then (if 0 < (t537.length : Int) then ((nat_short.f k t534 (rd t537 0)).bind fun bt545 => ((nat_trim.f k bt545.1).bind fun t549 => ((nat_trim.f k (([bt545.2] : List Int))).bind fun t555 => (some (t549, t555, 0))))) else (none)) else (if 0 ≤ (wrap64 ((t537.length : Int) - 1)) then (if (wrap64 ((t537.length : Int) - 1)) < (t537.length : Int) then ((bits_LeadingZeros32.f (rd t537 (wrap64 ((t537.length : Int) - 1)))).bind fun t559 => ((nat_moved.f k t534 t559).bind fun t560 => ((nat_moved.f k t537 t559).bind fun t563 => (if 0 ≤ (t537.length : Int) then (if (t537.length : Int) ≤ (t563.length : Int) then ((some (t563.take ((t537.length : Int) : Int).toNat : List Int)).bind fun y566 => (if 0 ≤ (wrap64 ((wrap64 ((t534.length : Int) - (y566.length : Int))) + 1)) then (if (wrap64 ((wrap64 ((t534.length : Int) - (y566.length : Int))) + 1) : Int).toNat ≤ 70368744177664 then ((some (List.replicate (wrap64 ((wrap64 ((t534.length : Int) - (y566.length : Int))) + 1) : Int).toNat 0 : List Int)).bind fun y570 => (nat_Divide.l0 k y570 t559 t560 y566 (y566.length : Int) (wrap64 ((y570.length : Int) - 1)))) else (none)) else (none))) else (none)) else (none))))) else (none)) else (none))))))))
def nat_Divide.l0 : Nat → List Int → Int → List Int → List Int → Int → Int → Option (List Int × List Int × Int)
 | 0, _, _, _, _, _, _ => none
 | k + 1, x4, x9, x10, x11, x12, x13 => if x13 ≥ 0 then (if 0 ≤ (wrap64 (x13 + x12)) then (if (wrap64 (x13 + x12)) < (x10.length : Int) then (if 0 ≤ (wrap64 ((wrap64 (x13 + x12)) - 1)) then (if (wrap64 ((wrap64 (x13 + x12)) - 1)) < (x10.length : Int) then (if 0 ≤ (wrap64 ((wrap64 (x13 + x12)) - 2)) then (if (wrap64 ((wrap64 (x13 + x12)) - 2)) < (x10.length : Int) then (if 0 ≤ (wrap64 (x12 - 1)) then (if (wrap64 (x12 - 1)) < (x11.length : Int) then (if 0 ≤ (wrap64 (x12 - 2)) then (if (wrap64 (x12 - 2)) < (x11.length : Int) then ((nat_guess.f k (rd x10 (wrap64 (x13 + x12))) (rd x10 (wrap64 ((wrap64 (x13 + x12)) - 1))) (rd x10 (wrap64 ((wrap64 (x13 + x12)) - 2))) (rd x11 (wrap64 (x12 - 1))) (rd x11 (wrap64 (x12 - 2)))).bind fun t578 => ((nat_takeAt.f k x10 x13 x12 x11 t578).bind fun bt579 => (nat_Divide.l1 k x4 x9 bt579.2 x11 x12 x13 t578 bt579.1))) else (none)) else (none)) else (none)) else (none)) else (none)) else (none)) else (none)) else (none)) else (none)) else (none)) else (if 0 ≤ x12 then (if (x12 : Int).toNat ≤ 70368744177664 then ((some (List.replicate (x12 : Int).toNat 0 : List Int)).bind fun y584 => (nat_Divide.l2 k x4 y584 x9 x10 (y584.length : Int) 0)) else (none)) else (none))
def nat_Divide.l1 : Nat → List Int → Int → List Int → List Int → Int → Int → Int → Bool → Option (List Int × List Int × Int)
 | 0, _, _, _, _, _, _, _, _ => none
 | k + 1, x4, x9, x10, x11, x12, x13, x14, x15 => if x15 = true then ((nat_giveAt.f k x10 x13 x12 x11).bind fun t581 => (if 0 ≤ (wrap64 (x13 + x12)) then (if (wrap64 (x13 + x12)) < (x10.length : Int) then (nat_Divide.l1 k x4 x9 t581 x11 x12 x13 (IntKind.u64.wrap (x14 - 1)) ((rd t581 (wrap64 (x13 + x12))) != 0)) else (none)) else (none))) else (if 0 ≤ x13 then (if x13 < (x4.length : Int) then (nat_Divide.l0 k (x4.set (x13 : Int).toNat ((x14) % 4294967296)) x9 x10 x11 x12 (wrap64 (x13 - 1))) else (none)) else (none))
def nat_Divide.l2 : Nat → List Int → List Int → Int → List Int → Int → Int → Option (List Int × List Int × Int)
 | 0, _, _, _, _, _, _ => none
 | k + 1, x4, x5, x9, x10, x154, x155 => if x155 < x154 then (if 0 ≤ (wrap64 (x155 + 1)) then (if (wrap64 (x155 + 1)) < (x10.length : Int) then (if 0 ≤ x155 then (if x155 < (x10.length : Int) then (if 0 ≤ x9 then (if x155 < (x5.length : Int) then (nat_Divide.l2 k x4 (x5.set (x155 : Int).toNat ((shr .u64 (Go.bits .or .u64 (IntKind.u64.wrap ((IntKind.u64.wrap (rd x10 (wrap64 (x155 + 1)))) * 4294967296)) (IntKind.u64.wrap (rd x10 x155))) x9) % 4294967296)) x9 x10 x154 (wrap64 (x155 + 1))) else (none)) else (none)) else (none)) else (none)) else (none)) else (none)) else ((nat_trim.f k x4).bind fun t590 => ((nat_trim.f k x5).bind fun t593 => (some (t590, t593, 0))))
end
def nat_Divide.f (k : Nat) (l0 : List Int) (l1 : List Int) : Option (List Int × List Int × Int) := (nat_large.f k l0).bind fun t532 => (if t532 = true then (nat_Divide.j0 k l0 l1 true) else ((nat_large.f k l1).bind fun t533 => (nat_Divide.j0 k l0 l1 t533)))
def nat_Divide.T12 : Bool × List (List Nat × List Nat) := (true, [([], []), ([], []), ([0, 1], [0, 1]), ([], []), ([], []), ([3, 4, 2], [3, 4]), ([], []), ([6], [6]), ([5, 7], [5, 7]), ([2, 5, 0, 1, 2], [2]), ([8, 9, 0, 1, 2, 3, 4, 5, 6, 7, 8, 9], [8])])
def nat_Divide.B12 : List Nat := [0, 0, 3, 0, 0, 31, 0, 64, 255, 63, 1023]
theorem nat_Divide.tab12 : rtab .any (opsOf Tryz.f92 12) = nat_Divide.T12 := by kernel_rfl
theorem nat_Divide.bits12 : waitsOk nat_Divide.T12.2 nat_Divide.B12 = true := by kernel_rfl
def nat_Divide.T18 : Bool × List (List Nat × List Nat) := (true, [([], []), ([], []), ([], []), ([1, 2], [1, 2]), ([0, 3], [0, 3]), ([4], [4]), ([], []), ([], []), ([], []), ([7, 8], [7, 8]), ([9], [9]), ([6, 10], [6, 10]), ([11], [11]), ([], []), ([], []), ([], []), ([14, 15], [14, 15]), ([16], [16]), ([13, 17], [13, 17]), ([18], [18]), ([], []), ([], []), ([21], [21]), ([20, 22], [20, 22]), ([23], [23]), ([], []), ([], []), ([26], [26]), ([25, 27], [25, 27]), ([28], [28]), ([5, 12, 19, 24, 29], [5, 12, 19, 24, 29]), ([30, 30, 0, 1, 2, 3, 4, 5, 6, 7, 8, 9, 10, 11, 12, 13, 14, 15, 16, 17, 18, 19, 20, 21, 22, 23, 24, 25, 26, 27, 28, 29, 30], [30])])
def nat_Divide.B18 : List Nat := [0, 0, 0, 6, 15, 31, 0, 0, 0, 384, 896, 1984, 4032, 0, 0, 0, 49152, 114688, 253952, 516096, 0, 0, 2097152, 7340032, 15728640, 0, 0, 67108864, 234881024, 503316480, 1073741823, 2147483647]
theorem nat_Divide.tab18 : rtab .any (opsOf Tryz.f92 18) = nat_Divide.T18 := by kernel_rfl
theorem nat_Divide.bits18 : waitsOk nat_Divide.T18.2 nat_Divide.B18 = true := by kernel_rfl
def nat_Divide.T29 : Bool × List (List Nat × List Nat) := (true, [([], []), ([], []), ([], []), ([], []), ([3], [3]), ([2, 4], [2, 4]), ([5], [5]), ([6], [6]), ([7], [7]), ([], []), ([], []), ([9, 10], [9, 10]), ([11], [11]), ([12], [12]), ([8, 13], [8, 13]), ([], []), ([14, 15], [14, 15]), ([16], [16]), ([0, 1, 0, 1, 2, 3, 4, 5, 6, 7, 8, 9, 10, 11, 12, 13, 14, 15, 16, 17], [0, 1]), ([18, 17, 0, 1, 2, 3, 4, 5, 6, 7, 8, 9, 10, 11, 12, 13, 14, 15, 16, 17], [17, 18])])
def nat_Divide.B29 : List Nat := [0, 0, 0, 0, 8, 28, 60, 124, 252, 0, 0, 1536, 3584, 7680, 16380, 0, 65532, 131068, 262143, 524287]
theorem nat_Divide.tab29 : rtab .any (opsOf Tryz.f92 29) = nat_Divide.T29 := by kernel_rfl
theorem nat_Divide.bits29 : waitsOk nat_Divide.T29.2 nat_Divide.B29 = true := by kernel_rfl
set_option maxRecDepth 100000 in
theorem nat_Divide.calls (k : Nat) (P0_ : Nat → Prop) (A0 : Option Addr) (c0 : Nat) (l0 : List Int) (P1_ : Nat → Prop) (A1 : Option Addr) (c1 : Nat) (l1 : List Int) (r1 : List Int) (r2 : List Int) (r3 : Int) (w : World) (hs0 : Kd.V (Kd.int .u32) 119 w w.heap.size (fun k_ => P0_ k_) (.slice A0 l0.length c0) l0) (hs1 : Kd.V (Kd.int .u32) 119 w w.heap.size (fun k_ => P1_ k_) (.slice A1 l1.length c1) l1) (h : nat_Divide.f k l0 l1 = some (r1, r2, r3)) :
  Calls Tryz.prog 92 #[.slice A0 l0.length c0, .slice A1 l1.length c1] w fun e w' => ∃ v0_ v1_ : Value, e = .returned (.tuple #[v0_, v1_, .int .i64 r3]) ∧ Kd.V (Kd.int .u32) 119 w' w.heap.size (fun k_ => ((P0_ k_ ∨ P1_ k_) ∨ w.heap.size ≤ k_)) v0_ r1 ∧ Kd.V (Kd.int .u32) 119 w' w.heap.size (fun k_ => ((P0_ k_ ∨ P1_ k_) ∨ w.heap.size ≤ k_)) v1_ r2 ∧ Below w.heap.size w w' := by
 have HO0 := md_ (show Kd.V (Kd.int .u32) 119 w w.heap.size (fun k_ => ((P0_ k_ ∨ P1_ k_) ∨ w.heap.size ≤ k_)) (.slice A0 l0.length c0) l0 from Kd.V_mono hs0 (fun k_ hk => .inl (.inl hk)))
 have HO1 := md_ (show Kd.V (Kd.int .u32) 119 w w.heap.size (fun k_ => ((P0_ k_ ∨ P1_ k_) ∨ w.heap.size ≤ k_)) (.slice A1 l1.length c1) l1 from Kd.V_mono hs1 (fun k_ hk => .inl (.inr hk)))
 have HB := md_ (Below.refl w.heap.size w)
 have H : ((nat_large.f k l0).bind fun t532 => (if t532 = true then (nat_Divide.j0 k l0 l1 true) else ((nat_large.f k l1).bind fun t533 => (nat_Divide.j0 k l0 l1 t533)))) = some (r1, r2, r3) := h
 clear h
 have HC3 := md_ H
 clear H
 go_enter Tryz.func92, Tryz.ntmps92
 go_upto_region 1 with (fail)
 go_cut [22] (fun v22 wc => ∃ (kq : Nat) (x22_2 : Bool), v22 = .bool x22_2 ∧ Aside0 (nat_Divide.j0 kq l0 l1 x22_2 = some (r1, r2, r3)) ∧ Aside0 (kq ≤ k) ∧ Aside0 (Kd.V (Kd.int .u32) 119 wc w.heap.size (fun k_ => ((P0_ k_ ∨ P1_ k_) ∨ w.heap.size ≤ k_)) (.slice A0 l0.length c0) l0) ∧ Aside0 (Kd.V (Kd.int .u32) 119 wc w.heap.size (fun k_ => ((P0_ k_ ∨ P1_ k_) ∨ w.heap.size ≤ k_)) (.slice A1 l1.length c1) l1) ∧ Aside0 (Below w.heap.size w wc))
 case first =>
  have H := HC3.out
  clear HC3
  replace H := Option.bind_eq_some_iff.mp H
  obtain ⟨t532, A40, H⟩ := H
  have A4 := md_ A40
  clear A40
  by_cases c5 : t532 = true
  ·subst c5
   rw [if_pos rfl] at H
   have H' := md_ H
   clear H
   go_wp2_with (first | ((with_reducible refine gate_callee (f := 117) rfl ?_); refine goesL_ (some 18) rfl rfl Tryz.func117 (by kernel_rfl) rfl #[.slice A0 l0.length c0] rfl gq ?_; (with_reducible refine (nat_large.calls k _ _ l0 true _ ?side1 ?side2 A4.out).mono ?_); (case side1 => repeat (first | exact (Kd.V_reads' HO0.out).2.2 | (with_reducible refine Kd.C_alloc ?_ _) | (with_reducible refine Kd.C_drewN ?_ _) | (with_reducible refine Kd.C_drew ?_))); (case side2 => exact (Kd.V_reads' HO0.out).2.1); rintro e w6 ⟨rfl, hb⟩; refine ⟨_, rfl, ?_⟩; replace HO0 := vb_ HO0 hb; replace HO1 := vb_ HO1 hb; replace HB := bb_ HB hb; (try clear hb); (try clear hi)))
   go_meet
   case rel => exact ⟨_, (true), aq, H', ⟨by first | omega | exact Nat.le_refl _⟩, ⟨vq HO0.out⟩, ⟨vq HO1.out⟩, ⟨bq HB.out⟩⟩
  ·replace c5 := Bool.eq_false_iff.mpr c5
   subst c5
   rw [if_neg (show ¬ (false = true) by decide)] at H
   replace H := Option.bind_eq_some_iff.mp H
   obtain ⟨t533, A70, H⟩ := H
   have A7 := md_ A70
   clear A70
   have H' := md_ H
   clear H
   go_wp2_with (first | ((with_reducible refine gate_callee (f := 117) rfl ?_); refine goesL_ (some 18) rfl rfl Tryz.func117 (by kernel_rfl) rfl #[.slice A0 l0.length c0] rfl gq ?_; (with_reducible refine (nat_large.calls k _ _ l0 false _ ?side1 ?side2 A4.out).mono ?_); (case side1 => repeat (first | exact (Kd.V_reads' HO0.out).2.2 | (with_reducible refine Kd.C_alloc ?_ _) | (with_reducible refine Kd.C_drewN ?_ _) | (with_reducible refine Kd.C_drew ?_))); (case side2 => exact (Kd.V_reads' HO0.out).2.1); rintro e w8 ⟨rfl, hb⟩; refine ⟨_, rfl, ?_⟩; replace HO0 := vb_ HO0 hb; replace HO1 := vb_ HO1 hb; replace HB := bb_ HB hb; (try clear hb); (try clear hi)) | (go_at_call 117; (with_reducible refine (nat_large.calls k _ _ l1 t533 _ ?side1 ?side2 A7.out).mono ?_); (case side1 => repeat (first | exact (Kd.V_reads' HO1.out).2.2 | (with_reducible refine Kd.C_alloc ?_ _) | (with_reducible refine Kd.C_drewN ?_ _) | (with_reducible refine Kd.C_drew ?_))); (case side2 => exact (Kd.V_reads' HO1.out).2.1); rintro e w9 ⟨rfl, hb⟩; replace HO0 := vb_ HO0 hb; replace HO1 := vb_ HO1 hb; replace HB := bb_ HB hb; (try clear hb); (try clear hi)))
   go_meet
   case rel => exact ⟨_, (t533), aq, H', ⟨by first | omega | exact Nat.le_refl _⟩, ⟨vq HO0.out⟩, ⟨vq HO1.out⟩, ⟨bq HB.out⟩⟩
 case rest =>
  clear HC3
  (try clear c1); (try clear p2); (try clear c3); (try clear c4); (try clear c5)
  obtain ⟨kq, x22_2, rfl, HA, HJ2, HO_0, HO_1, HB⟩ := hcut
  cases kq with
  | zero => exact absurd HA.out (by simp [nat_Divide.j0])
  | succ kj2 =>
   have H := HA.out
   clear HA
   simp only [nat_Divide.j0] at H
   by_cases c10 : x22_2 = true
   ·subst c10
    rw [if_pos rfl] at H
    simp only [Option.some.injEq, Prod.mk.injEq] at H
    obtain ⟨rfl, rfl, rfl⟩ := H
    go_wp2
    go_ret3
    exact ⟨_, _, eq_, Kd.V_mono (Kd.R_V (by first | exact Kd.R_nil _ _ _ _ _ | exact Kd.R_nil _ 119 _ 0 (fun _ => False) | exact Kd.R_nil _ 119 _ 0 _ | exact Kd.R_nil _ _ _ _ _ | exact Kd.N_nil _ _ _ _ _ | exact Kd.V_nil _ _ _ _ _ | exact Kd.Q_nil _ _ _ _ _ | exact Kd.S_nil _ _ _ _ _)) (fun k_ hk => by first | exact hk.elim | exact ⟨(.inr (hk.1)), hk.2⟩ | exact (.inr (hk))), Kd.V_mono (Kd.R_V (by first | exact Kd.R_nil _ _ _ _ _ | exact Kd.R_nil _ 119 _ 0 (fun _ => False) | exact Kd.R_nil _ 119 _ 0 _ | exact Kd.R_nil _ _ _ _ _ | exact Kd.N_nil _ _ _ _ _ | exact Kd.V_nil _ _ _ _ _ | exact Kd.Q_nil _ _ _ _ _ | exact Kd.S_nil _ _ _ _ _)) (fun k_ hk => by first | exact hk.elim | exact ⟨(.inr (hk.1)), hk.2⟩ | exact (.inr (hk))), bq HB.out⟩
   ·replace c10 := Bool.eq_false_iff.mpr c10
    subst c10
    rw [if_neg (show ¬ (false = true) by decide)] at H
    replace H := Option.bind_eq_some_iff.mp H
    obtain ⟨t534, A110, H⟩ := H
    have A11 := md_ A110
    clear A110
    replace H := Option.bind_eq_some_iff.mp H
    obtain ⟨t537, A120, H⟩ := H
    have A12 := md_ A120
    clear A120
    by_cases c13 : (t537.length : Int) = 0
    ·rw [if_pos c13] at H
     have c13b0 : ((t537.length : Int) == 0) = true := beq_iff_eq.mpr c13
     have c13b1 : ((t537.length : Int) != 0) = false := bne_eq_false_iff_eq.mpr c13
     clear c13
     simp only [Option.some.injEq, Prod.mk.injEq] at H
     obtain ⟨rfl, rfl, rfl⟩ := H
     go_wp2_with (first | ((with_reducible refine gate_callee (f := 86) rfl ?_); refine goesL_ (some 24) rfl rfl Tryz.func86 (by kernel_rfl) rfl #[.slice A0 l0.length c0] rfl gq ?_; (with_reducible refine (nat_trim.calls kj2 (fun k_ => ((P0_ k_ ∨ P1_ k_) ∨ w.heap.size ≤ k_)) _ _ l0 t534 _ ?side1 A11.out).mono ?_); (case side1 => exact HO_0.out); rintro e w14 ⟨v535, rfl, ho0, hb⟩; refine ⟨_, rfl, ?_⟩; have n0_ := md_ (Kd.V_below (vq HO_0.out) hb); have n1_ := md_ (Kd.V_below (vq HO_1.out) hb); have n2_ := md_ (Kd.V_lower (Kd.V_mono (ok' := fun k_ => ((P0_ k_ ∨ P1_ k_) ∨ w.heap.size ≤ k_)) ho0 (fun k_ hk_ => Or.elim hk_ (fun hs_ => hs_) (fun hn_ => (.inr (Nat.le_trans (below_size (bq HB.out)) hn_))))) (below_size (bq HB.out))); have n3_ := md_ (below_step (bq HB.out) hb); clear HO_0; clear HO_1; clear HB; have HO_0 := n0_; have HO_1 := n1_; have HO536 := n2_; have HB := n3_; clear n0_ n1_ n2_ n3_; (try clear hb); (try clear ho0)) | ((with_reducible refine gate_callee (f := 86) rfl ?_); refine goesL_ (some 26) rfl rfl Tryz.func86 (by kernel_rfl) rfl #[.slice A1 l1.length c1] rfl gq ?_; (with_reducible refine (nat_trim.calls kj2 (fun k_ => ((P0_ k_ ∨ P1_ k_) ∨ w.heap.size ≤ k_)) _ _ l1 t537 _ ?side1 A12.out).mono ?_); (case side1 => exact HO_1.out); rintro e w15 ⟨v538, rfl, ho0, hb⟩; refine ⟨_, rfl, ?_⟩; have n0_ := md_ (Kd.V_below (vq HO_0.out) hb); have n1_ := md_ (Kd.V_below (vq HO_1.out) hb); have n2_ := md_ (Kd.V_below (vq HO536.out) hb); have n3_ := md_ (Kd.V_lower (Kd.V_mono (ok' := fun k_ => ((P0_ k_ ∨ P1_ k_) ∨ w.heap.size ≤ k_)) ho0 (fun k_ hk_ => Or.elim hk_ (fun hs_ => hs_) (fun hn_ => (.inr (Nat.le_trans (below_size (bq HB.out)) hn_))))) (below_size (bq HB.out))); have n4_ := md_ (below_step (bq HB.out) hb); clear HO_0; clear HO_1; clear HO536; clear HB; have HO_0 := n0_; have HO_1 := n1_; have HO536 := n2_; have HO539 := n3_; have HB := n4_; clear n0_ n1_ n2_ n3_ n4_; (try clear hb); (try clear ho0); obtain ⟨Ao16, co16, eo16⟩ := Kd.V_slice HO539.out; subst eo16))
     go_ret3
     exact ⟨_, _, eq_, Kd.V_mono (Kd.R_V (by first | exact Kd.R_nil _ _ _ _ _ | exact Kd.R_nil _ 119 _ 0 (fun _ => False) | exact Kd.R_nil _ 119 _ 0 _ | exact Kd.R_nil _ _ _ _ _ | exact Kd.N_nil _ _ _ _ _ | exact Kd.V_nil _ _ _ _ _ | exact Kd.Q_nil _ _ _ _ _ | exact Kd.S_nil _ _ _ _ _)) (fun k_ hk => by first | exact hk.elim | exact ⟨(.inr (hk.1)), hk.2⟩ | exact (.inr (hk))), Kd.V_mono (Kd.R_V (by first | exact Kd.R_nil _ _ _ _ _ | exact Kd.R_nil _ 119 _ 0 (fun _ => False) | exact Kd.R_nil _ 119 _ 0 _ | exact Kd.R_nil _ _ _ _ _ | exact Kd.N_nil _ _ _ _ _ | exact Kd.V_nil _ _ _ _ _ | exact Kd.Q_nil _ _ _ _ _ | exact Kd.S_nil _ _ _ _ _)) (fun k_ hk => by first | exact hk.elim | exact ⟨(.inr (hk.1)), hk.2⟩ | exact (.inr (hk))), bq HB.out⟩
    ·rw [if_neg c13] at H
     have c13b0 : ((t537.length : Int) == 0) = false := beq_eq_false_iff_ne.mpr c13
     have c13b1 : ((t537.length : Int) != 0) = true := bne_iff_ne.mpr c13
     have c13b2 : ¬ (t537 = []) := fun h_ => c13 (by rw [h_]; rfl)
     replace H := Option.bind_eq_some_iff.mp H
     obtain ⟨t540, A170, H⟩ := H
     have A17 := md_ A170
     clear A170
     by_cases c18 : t540 < 0
     ·rw [if_pos c18] at H
      have c18b0 := decide_eq_true c18
      clear c18
      replace H := Option.bind_eq_some_iff.mp H
      obtain ⟨t541, A190, H⟩ := H
      have A19 := md_ A190
      clear A190
      simp only [Option.some.injEq, Prod.mk.injEq] at H
      obtain ⟨rfl, rfl, rfl⟩ := H
      go_wp2_with (first | ((with_reducible refine gate_callee (f := 86) rfl ?_); refine goesL_ (some 24) rfl rfl Tryz.func86 (by kernel_rfl) rfl #[.slice A0 l0.length c0] rfl gq ?_; (with_reducible refine (nat_trim.calls kj2 (fun k_ => ((P0_ k_ ∨ P1_ k_) ∨ w.heap.size ≤ k_)) _ _ l0 t534 _ ?side1 A11.out).mono ?_); (case side1 => exact HO_0.out); rintro e w20 ⟨v535, rfl, ho0, hb⟩; refine ⟨_, rfl, ?_⟩; have n0_ := md_ (Kd.V_below (vq HO_0.out) hb); have n1_ := md_ (Kd.V_below (vq HO_1.out) hb); have n2_ := md_ (Kd.V_lower (Kd.V_mono (ok' := fun k_ => ((P0_ k_ ∨ P1_ k_) ∨ w.heap.size ≤ k_)) ho0 (fun k_ hk_ => Or.elim hk_ (fun hs_ => hs_) (fun hn_ => (.inr (Nat.le_trans (below_size (bq HB.out)) hn_))))) (below_size (bq HB.out))); have n3_ := md_ (below_step (bq HB.out) hb); clear HO_0; clear HO_1; clear HB; have HO_0 := n0_; have HO_1 := n1_; have HO536 := n2_; have HB := n3_; clear n0_ n1_ n2_ n3_; (try clear hb); (try clear ho0)) | ((with_reducible refine gate_callee (f := 86) rfl ?_); refine goesL_ (some 26) rfl rfl Tryz.func86 (by kernel_rfl) rfl #[.slice A1 l1.length c1] rfl gq ?_; (with_reducible refine (nat_trim.calls kj2 (fun k_ => ((P0_ k_ ∨ P1_ k_) ∨ w.heap.size ≤ k_)) _ _ l1 t537 _ ?side1 A12.out).mono ?_); (case side1 => exact HO_1.out); rintro e w21 ⟨v538, rfl, ho0, hb⟩; refine ⟨_, rfl, ?_⟩; have n0_ := md_ (Kd.V_below (vq HO_0.out) hb); have n1_ := md_ (Kd.V_below (vq HO_1.out) hb); have n2_ := md_ (Kd.V_below (vq HO536.out) hb); have n3_ := md_ (Kd.V_lower (Kd.V_mono (ok' := fun k_ => ((P0_ k_ ∨ P1_ k_) ∨ w.heap.size ≤ k_)) ho0 (fun k_ hk_ => Or.elim hk_ (fun hs_ => hs_) (fun hn_ => (.inr (Nat.le_trans (below_size (bq HB.out)) hn_))))) (below_size (bq HB.out))); have n4_ := md_ (below_step (bq HB.out) hb); clear HO_0; clear HO_1; clear HO536; clear HB; have HO_0 := n0_; have HO_1 := n1_; have HO536 := n2_; have HO539 := n3_; have HB := n4_; clear n0_ n1_ n2_ n3_ n4_; (try clear hb); (try clear ho0); obtain ⟨Ao22, co22, eo22⟩ := Kd.V_slice HO539.out; subst eo22; obtain ⟨Ao23, co23, eo23⟩ := Kd.V_slice HO536.out; subst eo23) | ((with_reducible refine gate_callee (f := 91) rfl ?_); refine goesL_ (some 34) rfl rfl Tryz.func91 (by kernel_rfl) rfl #[.slice Ao23 t534.length co23, .slice Ao22 t537.length co22] rfl gq ?_; (with_reducible refine (nat_Compare.calls kj2 _ _ t534 _ _ t537 t540 _ ?side1 ?side2 ?side3 ?side4 A17.out).mono ?_); (case side1 => repeat (first | exact (Kd.V_reads' HO536.out).2.2 | (with_reducible refine Kd.C_alloc ?_ _) | (with_reducible refine Kd.C_drewN ?_ _) | (with_reducible refine Kd.C_drew ?_))); (case side2 => exact (Kd.V_reads' HO536.out).2.1); (case side3 => repeat (first | exact (Kd.V_reads' HO539.out).2.2 | (with_reducible refine Kd.C_alloc ?_ _) | (with_reducible refine Kd.C_drewN ?_ _) | (with_reducible refine Kd.C_drew ?_))); (case side4 => exact (Kd.V_reads' HO539.out).2.1); rintro e w24 ⟨rfl, hb⟩; refine ⟨_, rfl, ?_⟩; replace HO_0 := vb_ HO_0 hb; replace HO_1 := vb_ HO_1 hb; replace HO536 := vb_ HO536 hb; replace HO539 := vb_ HO539 hb; replace HB := bb_ HB hb; (try clear hb); (try clear hi)) | ((with_reducible refine gate_callee (f := 110) rfl ?_); refine goesL_ (some 37) rfl rfl Tryz.func110 (by kernel_rfl) rfl #[.slice Ao23 t534.length co23] rfl gq ?_; (with_reducible refine (slices_Clone_uint32_uint32.calls _ _ t534 t541 _ ?side1 ?side2 A19.out).mono ?_); (case side1 => repeat (first | exact (Kd.V_reads' HO536.out).2.2 | (with_reducible refine Kd.C_alloc ?_ _) | (with_reducible refine Kd.C_drewN ?_ _) | (with_reducible refine Kd.C_drew ?_))); (case side2 => exact (Kd.V_reads' HO536.out).2.1); rintro e w25 ⟨v542, rfl, ho0, hb⟩; refine ⟨_, rfl, ?_⟩; replace HO_0 := md_ (Kd.V_elder' (vq HO_0.out) (Kd.R_base ho0) hb); replace HO_1 := md_ (Kd.V_elder' (vq HO_1.out) (Kd.R_base ho0) hb); replace HO536 := md_ (Kd.V_elder' (vq HO536.out) (Kd.R_base ho0) hb); replace HO539 := md_ (Kd.V_elder' (vq HO539.out) (Kd.R_base ho0) hb); have HO543 := md_ (Kd.R_lower (Kd.R_newM (M := fun k_ => (w.heap.size ≤ k_)) ho0 (below_size (bq HB.out)) (fun k_ h_ => h_)) (below_size (bq HB.out))); replace HB := bb_ HB hb; (try clear hb); (try clear ho0)))
      go_ret3
      exact ⟨_, _, eq_, Kd.V_mono (Kd.R_V (by first | exact Kd.R_nil _ _ _ _ _ | exact Kd.R_nil _ 119 _ 0 (fun _ => False) | exact Kd.R_nil _ 119 _ 0 _ | exact Kd.R_nil _ _ _ _ _ | exact Kd.N_nil _ _ _ _ _ | exact Kd.V_nil _ _ _ _ _ | exact Kd.Q_nil _ _ _ _ _ | exact Kd.S_nil _ _ _ _ _)) (fun k_ hk => by first | exact hk.elim | exact ⟨(.inr (hk.1)), hk.2⟩ | exact (.inr (hk))), Kd.V_mono (Kd.R_V (by (with_reducible repeat (first | apply Kd.R_alloc | apply Kd.R_drewN | apply Kd.R_drew)); exact Kd.R_mono HO543.out (fun _ hk => hk.1))) (fun k_ hk => by first | exact hk.elim | exact ⟨(.inr (hk.1)), hk.2⟩ | exact (.inr (hk))), bq HB.out⟩
     ·rw [if_neg c18] at H
      have c18b0 := decide_eq_false c18
      clear c18
      by_cases c26 : (t537.length : Int) = 1
      ·rw [if_pos c26] at H
       have c26b0 : ((t537.length : Int) == 1) = true := beq_iff_eq.mpr c26
       have c26b1 : ((t537.length : Int) != 1) = false := bne_eq_false_iff_eq.mpr c26
       clear c26
       obtain ⟨c27, H⟩ := oi_ H
       have c27b0 : decide (0 < (t537.length : Int)) = true := decide_eq_true c27
       have c27b1 : decide (0 < t537.length) = true := decide_eq_true (by omega)
       clear c27
       replace H := Option.bind_eq_some_iff.mp H
       obtain ⟨⟨t545, t546⟩, A280, H⟩ := H
       dsimp only at H
       have A28 := md_ A280
       clear A280
       replace H := Option.bind_eq_some_iff.mp H
       obtain ⟨t549, A290, H⟩ := H
       have A29 := md_ A290
       clear A290
       obtain ⟨y552, hy552⟩ : ∃ y_ : List Int, y_ = (([t546] : List Int)) := ⟨_, rfl⟩
       replace H : ((nat_trim.f kj2 y552).bind fun t555 => (some (t549, t555, 0))) = some (r1, r2, r3) := by first | (rw [hy552]; with_reducible exact H) | (have H2_ := (Option.bind_some _ _).symm.trans H; rw [hy552]; with_reducible exact H2_) | (have H2_ := (Option.bind_some _ _).symm.trans H; with_reducible exact H2_) | with_reducible exact H | (rw [hy552]; exact H) | exact H
       have Ny552 := md_ hy552
       clear hy552
       replace H := Option.bind_eq_some_iff.mp H
       obtain ⟨t555, A300, H⟩ := H
       have A30 := md_ A300
       clear A300
       simp only [Option.some.injEq, Prod.mk.injEq] at H
       obtain ⟨rfl, rfl, rfl⟩ := H
       go_wp2_with (first | ((with_reducible refine gate_callee (f := 86) rfl ?_); refine goesL_ (some 24) rfl rfl Tryz.func86 (by kernel_rfl) rfl #[.slice A0 l0.length c0] rfl gq ?_; (with_reducible refine (nat_trim.calls kj2 (fun k_ => ((P0_ k_ ∨ P1_ k_) ∨ w.heap.size ≤ k_)) _ _ l0 t534 _ ?side1 A11.out).mono ?_); (case side1 => exact HO_0.out); rintro e w31 ⟨v535, rfl, ho0, hb⟩; refine ⟨_, rfl, ?_⟩; have n0_ := md_ (Kd.V_below (vq HO_0.out) hb); have n1_ := md_ (Kd.V_below (vq HO_1.out) hb); have n2_ := md_ (Kd.V_lower (Kd.V_mono (ok' := fun k_ => ((P0_ k_ ∨ P1_ k_) ∨ w.heap.size ≤ k_)) ho0 (fun k_ hk_ => Or.elim hk_ (fun hs_ => hs_) (fun hn_ => (.inr (Nat.le_trans (below_size (bq HB.out)) hn_))))) (below_size (bq HB.out))); have n3_ := md_ (below_step (bq HB.out) hb); clear HO_0; clear HO_1; clear HB; have HO_0 := n0_; have HO_1 := n1_; have HO536 := n2_; have HB := n3_; clear n0_ n1_ n2_ n3_; (try clear hb); (try clear hk); (try clear ho0)) | ((with_reducible refine gate_callee (f := 86) rfl ?_); refine goesL_ (some 26) rfl rfl Tryz.func86 (by kernel_rfl) rfl #[.slice A1 l1.length c1] rfl gq ?_; (with_reducible refine (nat_trim.calls kj2 (fun k_ => ((P0_ k_ ∨ P1_ k_) ∨ w.heap.size ≤ k_)) _ _ l1 t537 _ ?side1 A12.out).mono ?_); (case side1 => exact HO_1.out); rintro e w32 ⟨v538, rfl, ho0, hb⟩; refine ⟨_, rfl, ?_⟩; have n0_ := md_ (Kd.V_below (vq HO_0.out) hb); have n1_ := md_ (Kd.V_below (vq HO_1.out) hb); have n2_ := md_ (Kd.V_below (vq HO536.out) hb); have n3_ := md_ (Kd.V_lower (Kd.V_mono (ok' := fun k_ => ((P0_ k_ ∨ P1_ k_) ∨ w.heap.size ≤ k_)) ho0 (fun k_ hk_ => Or.elim hk_ (fun hs_ => hs_) (fun hn_ => (.inr (Nat.le_trans (below_size (bq HB.out)) hn_))))) (below_size (bq HB.out))); have n4_ := md_ (below_step (bq HB.out) hb); clear HO_0; clear HO_1; clear HO536; clear HB; have HO_0 := n0_; have HO_1 := n1_; have HO536 := n2_; have HO539 := n3_; have HB := n4_; clear n0_ n1_ n2_ n3_ n4_; (try clear hb); (try clear hk); (try clear ho0); obtain ⟨Ao33, co33, eo33⟩ := Kd.V_slice HO539.out; subst eo33; obtain ⟨Ao34, co34, eo34⟩ := Kd.V_slice HO536.out; subst eo34) | ((with_reducible refine gate_callee (f := 91) rfl ?_); refine goesL_ (some 34) rfl rfl Tryz.func91 (by kernel_rfl) rfl #[.slice Ao34 t534.length co34, .slice Ao33 t537.length co33] rfl gq ?_; (with_reducible refine (nat_Compare.calls kj2 _ _ t534 _ _ t537 t540 _ ?side1 ?side2 ?side3 ?side4 A17.out).mono ?_); (case side1 => repeat (first | exact (Kd.V_reads' HO536.out).2.2 | (with_reducible refine Kd.C_alloc ?_ _) | (with_reducible refine Kd.C_drewN ?_ _) | (with_reducible refine Kd.C_drew ?_))); (case side2 => exact (Kd.V_reads' HO536.out).2.1); (case side3 => repeat (first | exact (Kd.V_reads' HO539.out).2.2 | (with_reducible refine Kd.C_alloc ?_ _) | (with_reducible refine Kd.C_drewN ?_ _) | (with_reducible refine Kd.C_drew ?_))); (case side4 => exact (Kd.V_reads' HO539.out).2.1); rintro e w35 ⟨rfl, hb⟩; refine ⟨_, rfl, ?_⟩; replace HO_0 := vb_ HO_0 hb; replace HO_1 := vb_ HO_1 hb; replace HO536 := vb_ HO536 hb; replace HO539 := vb_ HO539 hb; replace HB := bb_ HB hb; (try clear hb); (try clear hk); have p544 : 0 ≤ (0 : Int) := (by omega); have q544 : 0 < (t537.length : Int) := oq; obtain ⟨ad544, e544, hx544_0⟩ := Kd.at_int (Kd.V_reads' HO539.out).2.2 0 p544 q544; cases e544; have qi544 : (0 < t537.length) = True := eq_true (by omega); (try rw [show ((0 : Int)).toNat = 0 from rfl] at hx544_0); (try rw [Addr.add_zero'] at hx544_0); replace p544 := eq_true p544; replace q544 := eq_true q544) | ((with_reducible refine gate_callee (f := 118) rfl ?_); refine goesL_ (some 47) rfl rfl Tryz.func118 (by kernel_rfl) rfl #[.slice Ao34 t534.length co34, .int .u32 (rd t537 0)] rfl gq ?_; (with_reducible refine (nat_short.calls kj2 _ _ t534 (rd t537 0) t545 t546 _ ?side1 ?side2 A28.out).mono ?_); (case side1 => repeat (first | exact (Kd.V_reads' HO536.out).2.2 | (with_reducible refine Kd.C_alloc ?_ _) | (with_reducible refine Kd.C_drewN ?_ _) | (with_reducible refine Kd.C_drew ?_))); (case side2 => exact (Kd.V_reads' HO536.out).2.1); rintro e w36 ⟨v547, rfl, ho0, hb⟩; refine ⟨_, rfl, ?_⟩; replace HO_0 := md_ (Kd.V_elder' (vq HO_0.out) (Kd.R_base ho0) hb); replace HO_1 := md_ (Kd.V_elder' (vq HO_1.out) (Kd.R_base ho0) hb); replace HO536 := md_ (Kd.V_elder' (vq HO536.out) (Kd.R_base ho0) hb); replace HO539 := md_ (Kd.V_elder' (vq HO539.out) (Kd.R_base ho0) hb); have HO548 := md_ (Kd.R_lower (Kd.R_newM (M := fun k_ => (w.heap.size ≤ k_)) ho0 (below_size (bq HB.out)) (fun k_ h_ => h_)) (below_size (bq HB.out))); replace HB := bb_ HB hb; (try clear hb); (try clear hk); (try clear ho0); obtain ⟨Ao37, co37, eo37⟩ := Kd.R_slice HO548.out; subst eo37) | ((with_reducible refine gate_callee (f := 86) rfl ?_); refine goesL_ (some 51) rfl rfl Tryz.func86 (by kernel_rfl) rfl #[.slice Ao37 t545.length co37] rfl gq ?_; (with_reducible refine (nat_trim.calls kj2 (fun k_ => some k_ = (.slice Ao37 t545.length co37 : Value).ownBlock) _ _ t545 t549 _ ?side1 A29.out).mono ?_); (case side1 => exact Kd.R_V (Kd.R_tight rfl (HO548.out))); rintro e w38 ⟨v550, rfl, ho0, hb⟩; refine ⟨_, rfl, ?_⟩; have n0_ := md_ (Kd.V_below (vq HO_0.out) hb); have n1_ := md_ (Kd.V_below (vq HO_1.out) hb); have n2_ := md_ (Kd.V_below (vq HO536.out) hb); have n3_ := md_ (Kd.V_below (vq HO539.out) hb); have n4_ := md_ (Kd.R_below (rq HO548.out) hb); have n5_ := md_ (Kd.V_lower (Kd.V_mono (ok' := fun k_ => ((P0_ k_ ∨ P1_ k_) ∨ w.heap.size ≤ k_)) ho0 (fun k_ hk_ => Or.elim hk_ (fun hs_ => (.inr (((HO548.out).1 k_ hs_.symm).1))) (fun hn_ => (.inr (Nat.le_trans (below_size (bq HB.out)) hn_))))) (below_size (bq HB.out))); have n6_ := md_ (below_step (bq HB.out) hb); clear HO_0; clear HO_1; clear HO536; clear HO539; clear HO548; clear HB; have HO_0 := n0_; have HO_1 := n1_; have HO536 := n2_; have HO539 := n3_; have HO548 := n4_; have HO551 := n5_; have HB := n6_; clear n0_ n1_ n2_ n3_ n4_ n5_ n6_; (try clear hb); (try clear hk); (try clear ho0)) | ((with_reducible refine gate_dst (N := 53) rfl ?_); refine Kd.R_lit (Kd.int .u32) _ 119 ?hg (N := 53) ?hd (xs := ([t546] : List Int)) (inner := [.int .u32 t546]) (ok := fun _ => True) (okp := fun _ => True) ?hr ?hp (fun _ hk => hk) trivial (Below.refl _ _) (Nat.le_refl _) (by simp) ?_; (case hd => rfl); (case hg => rfl); (case hr => first | (go_simp; done) | (go_simp; rfl)); (case hp => exact (Reps.one (show Kd.M (Kd.int .u32) _ _ _ t546 [.int .u32 t546] from rfl) (Reps.none _ _))); intro v553 w39 ho40 hb hg_ hnew_; clear hg_ hnew_; (first | rw [← Ny552.out] at ho40 | (simp only [Int.reduceToNat] at ho40; rw [← Ny552.out] at ho40)); have n0_ := md_ (Kd.V_elder' (vq HO_0.out) (Kd.R_base ho40) hb); have n1_ := md_ (Kd.V_elder' (vq HO_1.out) (Kd.R_base ho40) hb); have n2_ := md_ (Kd.V_elder' (vq HO536.out) (Kd.R_base ho40) hb); have n3_ := md_ (Kd.V_elder' (vq HO539.out) (Kd.R_base ho40) hb); have n4_ := md_ (Kd.R_elder' (rq HO548.out) (Kd.R_base ho40) hb); have n5_ := md_ (Kd.V_elder' (vq HO551.out) (Kd.R_base ho40) hb); have n6_ := md_ (Kd.R_lower (Kd.R_new' (Kd.R_newM (M := fun k_ => (w.heap.size ≤ k_)) ho40 (below_size (bq HB.out)) (fun k_ h_ => h_)) (Kd.R_lt (rq HO548.out))) (below_size (bq HB.out))); have n7_ := md_ (below_step (bq HB.out) hb); clear HO_0; clear HO_1; clear HO536; clear HO539; clear HO548; clear HO551; clear HB; have HO_0 := n0_; have HO_1 := n1_; have HO536 := n2_; have HO539 := n3_; have HO548 := n4_; have HO551 := n5_; have HO554 := n6_; have HB := n7_; clear n0_ n1_ n2_ n3_ n4_ n5_ n6_ n7_; clear hb ho40; obtain ⟨Ao41, co41, eo41⟩ := Kd.R_slice HO554.out; subst eo41) | ((with_reducible refine gate_callee (f := 86) rfl ?_); refine goesL_ (some 54) rfl rfl Tryz.func86 (by kernel_rfl) rfl #[.slice Ao41 y552.length co41] rfl gq ?_; (with_reducible refine (nat_trim.calls kj2 (fun k_ => some k_ = (.slice Ao41 y552.length co41 : Value).ownBlock) _ _ y552 t555 _ ?side1 A30.out).mono ?_); (case side1 => exact Kd.R_V (Kd.R_tight rfl (HO554.out))); rintro e w42 ⟨v556, rfl, ho0, hb⟩; refine ⟨_, rfl, ?_⟩; have n0_ := md_ (Kd.V_below (vq HO_0.out) hb); have n1_ := md_ (Kd.V_below (vq HO_1.out) hb); have n2_ := md_ (Kd.V_below (vq HO536.out) hb); have n3_ := md_ (Kd.V_below (vq HO539.out) hb); have n4_ := md_ (Kd.R_below (rq HO548.out) hb); have n5_ := md_ (Kd.V_below (vq HO551.out) hb); have n6_ := md_ (Kd.R_below (rq HO554.out) hb); have n7_ := md_ (Kd.V_lower (Kd.V_mono (ok' := fun k_ => ((P0_ k_ ∨ P1_ k_) ∨ w.heap.size ≤ k_) ∧ some k_ ≠ (.slice Ao37 t545.length co37 : Value).ownBlock) ho0 (fun k_ hk_ => ⟨Or.elim hk_ (fun hs_ => (.inr (((HO554.out).1 k_ hs_.symm).1.1))) (fun hn_ => (.inr (Nat.le_trans (below_size (bq HB.out)) hn_))), Or.elim hk_ (fun hs_ => ((HO554.out).1 k_ hs_.symm).2) (fun hn_ => (Kd.fresh' (Kd.R_lt (rq HO548.out)) k_ hn_))⟩)) (below_size (bq HB.out))); have n8_ := md_ (below_step (bq HB.out) hb); clear HO_0; clear HO_1; clear HO536; clear HO539; clear HO548; clear HO551; clear HO554; clear HB; have HO_0 := n0_; have HO_1 := n1_; have HO536 := n2_; have HO539 := n3_; have HO548 := n4_; have HO551 := n5_; have HO554 := n6_; have HO557 := n7_; have HB := n8_; clear n0_ n1_ n2_ n3_ n4_ n5_ n6_ n7_ n8_; (try clear hb); (try clear hk); (try clear ho0)))
       go_ret3
       exact ⟨_, _, eq_, by (with_reducible repeat (first | apply Kd.V_alloc | apply Kd.V_drewN | apply Kd.V_drew)); exact Kd.V_mono HO551.out (fun _ hk => hk.1), by (with_reducible repeat (first | apply Kd.V_alloc | apply Kd.V_drewN | apply Kd.V_drew)); exact Kd.V_mono HO557.out (fun _ hk => hk.1), bq HB.out⟩
      ·rw [if_neg c26] at H
       have c26b0 : ((t537.length : Int) == 1) = false := beq_eq_false_iff_ne.mpr c26
       have c26b1 : ((t537.length : Int) != 1) = true := bne_iff_ne.mpr c26
       obtain ⟨ji43, hji43⟩ : ∃ j_ : Int, (wrap64 ((t537.length : Int) - 1)) = j_ := ⟨_, rfl⟩
       first | rw [hji43] at H | simp only [hji43] at H
       (try rw [hji43] at A11)
       (try rw [hji43] at A12)
       (try rw [hji43] at A17)
       have hji43w : (IntKind.i64.wrap ((t537.length : Int) - 1)) = ji43 := (i64_w _).trans hji43
       obtain ⟨c44b0, H⟩ := od_ H
       obtain ⟨c45b0, H⟩ := od_ H
       replace H := Option.bind_eq_some_iff.mp H
       obtain ⟨t559, A460, H⟩ := H
       have A46 := md_ A460
       clear A460
       replace H := Option.bind_eq_some_iff.mp H
       obtain ⟨t560, A470, H⟩ := H
       have A47 := md_ A470
       clear A470
       replace H := Option.bind_eq_some_iff.mp H
       obtain ⟨t563, A480, H⟩ := H
       have A48 := md_ A480
       clear A480
       obtain ⟨c49, H⟩ := oi_ H
       have c49b0 := eq_true c49
       have c49b1 : decide (0 ≤ (t537.length : Int)) = true := decide_eq_true c49
       clear c49
       obtain ⟨c50, H⟩ := oi_ H
       have c50b0 := eq_true c50
       have c50b1 : decide ((t537.length : Int) ≤ (t563.length : Int)) = true := decide_eq_true c50
       clear c50
       obtain ⟨y566, hy566⟩ : ∃ y_ : List Int, y_ = (t563.take ((t537.length : Int) : Int).toNat) := ⟨_, rfl⟩
       replace H : (if 0 ≤ (wrap64 ((wrap64 ((t534.length : Int) - (y566.length : Int))) + 1)) then (if (wrap64 ((wrap64 ((t534.length : Int) - (y566.length : Int))) + 1) : Int).toNat ≤ 70368744177664 then ((some (List.replicate (wrap64 ((wrap64 ((t534.length : Int) - (y566.length : Int))) + 1) : Int).toNat 0 : List Int)).bind fun y570 => (nat_Divide.l0 kj2 y570 t559 t560 y566 (y566.length : Int) (wrap64 ((y570.length : Int) - 1)))) else (none)) else (none)) = some (r1, r2, r3) := by first | (rw [hy566]; with_reducible exact H) | (have H2_ := (Option.bind_some _ _).symm.trans H; rw [hy566]; with_reducible exact H2_) | (have H2_ := (Option.bind_some _ _).symm.trans H; with_reducible exact H2_) | with_reducible exact H | (rw [hy566]; exact H) | exact H
       have Ny566 := md_ hy566
       clear hy566
       obtain ⟨ji51, hji51⟩ : ∃ j_ : Int, (wrap64 ((wrap64 ((t534.length : Int) - (y566.length : Int))) + 1)) = j_ := ⟨_, rfl⟩
       first | rw [hji51] at H | simp only [hji51] at H
       (try rw [hji51] at A11)
       (try rw [hji51] at A12)
       (try rw [hji51] at A17)
       (try rw [hji51] at A46)
       (try rw [hji51] at A47)
       (try rw [hji51] at A48)
       have hji51w : (IntKind.i64.wrap ((wrap64 ((t534.length : Int) - (y566.length : Int))) + 1)) = ji51 := (i64_w _).trans hji51
       obtain ⟨c52, H⟩ := oi_ H
       have c52b0 := eq_true c52
       have c52b1 : decide (0 ≤ (ji51)) = true := decide_eq_true c52
       clear c52
       obtain ⟨c53, H⟩ := oi_ H
       have c53b0 := eq_true c53
       have c53b1 : decide ((ji51 : Int).toNat ≤ 70368744177664) = true := decide_eq_true c53
       clear c53
       obtain ⟨y570, hy570⟩ : ∃ y_ : List Int, y_ = (List.replicate (ji51 : Int).toNat 0) := ⟨_, rfl⟩
       replace H : (nat_Divide.l0 kj2 y570 t559 t560 y566 (y566.length : Int) (wrap64 ((y570.length : Int) - 1))) = some (r1, r2, r3) := by first | (rw [hy570]; with_reducible exact H) | (have H2_ := (Option.bind_some _ _).symm.trans H; rw [hy570]; with_reducible exact H2_) | (have H2_ := (Option.bind_some _ _).symm.trans H; with_reducible exact H2_) | with_reducible exact H | (rw [hy570]; exact H) | exact H
       have Ny570 := md_ hy570
       clear hy570
       have H' := md_ H
       clear H
       try go_wp2_with (first | ((with_reducible refine gate_callee (f := 86) rfl ?_); refine goesL_ (some 24) rfl rfl Tryz.func86 (by kernel_rfl) rfl #[.slice A0 l0.length c0] rfl gq ?_; (with_reducible refine (nat_trim.calls kj2 (fun k_ => ((P0_ k_ ∨ P1_ k_) ∨ w.heap.size ≤ k_)) _ _ l0 t534 _ ?side1 A11.out).mono ?_); (case side1 => exact HO_0.out); rintro e w54 ⟨v535, rfl, ho0, hb⟩; refine ⟨_, rfl, ?_⟩; have n0_ := md_ (Kd.V_below (vq HO_0.out) hb); have n1_ := md_ (Kd.V_below (vq HO_1.out) hb); have n2_ := md_ (Kd.V_lower (Kd.V_mono (ok' := fun k_ => ((P0_ k_ ∨ P1_ k_) ∨ w.heap.size ≤ k_)) ho0 (fun k_ hk_ => Or.elim hk_ (fun hs_ => hs_) (fun hn_ => (.inr (Nat.le_trans (below_size (bq HB.out)) hn_))))) (below_size (bq HB.out))); have n3_ := md_ (below_step (bq HB.out) hb); clear HO_0; clear HO_1; clear HB; have HO_0 := n0_; have HO_1 := n1_; have HO536 := n2_; have HB := n3_; clear n0_ n1_ n2_ n3_; (try clear hb); (try clear ho0)) | ((with_reducible refine gate_callee (f := 86) rfl ?_); refine goesL_ (some 26) rfl rfl Tryz.func86 (by kernel_rfl) rfl #[.slice A1 l1.length c1] rfl gq ?_; (with_reducible refine (nat_trim.calls kj2 (fun k_ => ((P0_ k_ ∨ P1_ k_) ∨ w.heap.size ≤ k_)) _ _ l1 t537 _ ?side1 A12.out).mono ?_); (case side1 => exact HO_1.out); rintro e w55 ⟨v538, rfl, ho0, hb⟩; refine ⟨_, rfl, ?_⟩; have n0_ := md_ (Kd.V_below (vq HO_0.out) hb); have n1_ := md_ (Kd.V_below (vq HO_1.out) hb); have n2_ := md_ (Kd.V_below (vq HO536.out) hb); have n3_ := md_ (Kd.V_lower (Kd.V_mono (ok' := fun k_ => ((P0_ k_ ∨ P1_ k_) ∨ w.heap.size ≤ k_)) ho0 (fun k_ hk_ => Or.elim hk_ (fun hs_ => hs_) (fun hn_ => (.inr (Nat.le_trans (below_size (bq HB.out)) hn_))))) (below_size (bq HB.out))); have n4_ := md_ (below_step (bq HB.out) hb); clear HO_0; clear HO_1; clear HO536; clear HB; have HO_0 := n0_; have HO_1 := n1_; have HO536 := n2_; have HO539 := n3_; have HB := n4_; clear n0_ n1_ n2_ n3_ n4_; (try clear hb); (try clear ho0); obtain ⟨Ao56, co56, eo56⟩ := Kd.V_slice HO539.out; subst eo56; obtain ⟨Ao57, co57, eo57⟩ := Kd.V_slice HO536.out; subst eo57) | ((with_reducible refine gate_callee (f := 91) rfl ?_); refine goesL_ (some 34) rfl rfl Tryz.func91 (by kernel_rfl) rfl #[.slice Ao57 t534.length co57, .slice Ao56 t537.length co56] rfl gq ?_; (with_reducible refine (nat_Compare.calls kj2 _ _ t534 _ _ t537 t540 _ ?side1 ?side2 ?side3 ?side4 A17.out).mono ?_); (case side1 => repeat (first | exact (Kd.V_reads' HO536.out).2.2 | (with_reducible refine Kd.C_alloc ?_ _) | (with_reducible refine Kd.C_drewN ?_ _) | (with_reducible refine Kd.C_drew ?_))); (case side2 => exact (Kd.V_reads' HO536.out).2.1); (case side3 => repeat (first | exact (Kd.V_reads' HO539.out).2.2 | (with_reducible refine Kd.C_alloc ?_ _) | (with_reducible refine Kd.C_drewN ?_ _) | (with_reducible refine Kd.C_drew ?_))); (case side4 => exact (Kd.V_reads' HO539.out).2.1); rintro e w58 ⟨rfl, hb⟩; refine ⟨_, rfl, ?_⟩; replace HO_0 := vb_ HO_0 hb; replace HO_1 := vb_ HO_1 hb; replace HO536 := vb_ HO536 hb; replace HO539 := vb_ HO539 hb; replace HB := bb_ HB hb; (try clear hb); have p558 : 0 ≤ ((ji43) : Int) := oq; have q558 : (ji43) < (t537.length : Int) := oq; obtain ⟨ad558, e558, hx558_0⟩ := Kd.at_int (Kd.V_reads' HO539.out).2.2 (ji43) p558 q558; cases e558; replace p558 := eq_true p558; replace q558 := eq_true q558) | ((with_reducible refine gate_callee (f := 119) rfl ?_); refine goesL_ (some 61) rfl rfl Tryz.func119 (by kernel_rfl) rfl #[.int .u32 (rd t537 (ji43))] rfl (by (try simp only [List.map_toArray, List.map_cons, List.map_nil]); first | done | (simp only [hji43]; rfl) | rfl | (simp only [List.length_drop, List.length_take]; rfl)) ?_; (with_reducible refine (bits_LeadingZeros32.calls (rd t537 (ji43)) t559 _ A46.out).mono ?_); rintro e w' ⟨rfl, ⟨nd, rfl⟩⟩; refine ⟨_, rfl, ?_⟩))
       (try (rw [drewN_self w58]; generalize hq_ : World.drewN w58 _ = w58; have n0_ : Aside0 (Kd.V (Kd.int .u32) 119 w58 w.heap.size (fun k_ => ((P0_ k_ ∨ P1_ k_) ∨ w.heap.size ≤ k_)) (.slice Ao57 t534.length co57) t534) := ⟨by rw [← hq_]; exact (vq HO536.out)⟩; have n1_ : Aside0 (Kd.V (Kd.int .u32) 119 w58 w.heap.size (fun k_ => ((P0_ k_ ∨ P1_ k_) ∨ w.heap.size ≤ k_)) (.slice (some ad558) t537.length co56) t537) := ⟨by rw [← hq_]; exact (vq HO539.out)⟩; have n2_ : Aside0 (Kd.V (Kd.int .u32) 119 w58 w.heap.size (fun k_ => ((P0_ k_ ∨ P1_ k_) ∨ w.heap.size ≤ k_)) (.slice A0 l0.length c0) l0) := ⟨by rw [← hq_]; exact (vq HO_0.out)⟩; have n3_ : Aside0 (Kd.V (Kd.int .u32) 119 w58 w.heap.size (fun k_ => ((P0_ k_ ∨ P1_ k_) ∨ w.heap.size ≤ k_)) (.slice A1 l1.length c1) l1) := ⟨by rw [← hq_]; exact (vq HO_1.out)⟩; have n4_ : Aside0 (Below w.heap.size w w58) := ⟨by rw [← hq_]; exact (bq HB.out)⟩; clear HO536 HO539 HO_0 HO_1 HB hq_; have HO536 := n0_; have HO539 := n1_; have HO_0 := n2_; have HO_1 := n3_; have HB := n4_; clear n0_ n1_ n2_ n3_ n4_))
       replace HO_0 := md_ (Kd.V_drew HO_0.out)
       replace HO_1 := md_ (Kd.V_drew HO_1.out)
       replace HO536 := md_ (Kd.V_drew HO536.out)
       replace HO539 := md_ (Kd.V_drew HO539.out)
       replace HB := md_ (below_drew1 HB.out)
       refine start_ (n := 11) (S := fun w' => True) (ds := []) #[false, false, false, false, false, false, false, false, false, false, false] (by kernel_rfl) rfl rfl trivial (fun hHeld => ?_); refine with_tabW nat_Divide.tab12 nat_Divide.bits12 (fun HT_ HW_ => ?_)
       generalize w58.drew = w59 at HO_0 HO_1 HO536 HO539 HB hHeld ⊢
       refine pq_ 0 (some 62) HT_ ?_
       refine pq_ 1 (some 63) HT_ ?_
       refine pq_ 3 (some 65) HT_ ?_
       refine pq_ 4 (some 66) HT_ ?_
       refine pq_ 6 (some 68) HT_ ?_
       refine pq_ 7 (some 69) HT_ ?_
       refine one_ (i := 2) (N := some 64) #[true, true, true, true, true, false, true, true, false, false, false] rfl rfl (one_of HT_.out (by kernel_rfl)) (by decide) (fun K hK => ?_)
       refine goes_ Tryz.func120 (by kernel_rfl) rfl #[.slice Ao57 t534.length co57, .int .i64 t559] (by rfl) rfl rfl gq ?_
       with_reducible refine (nat_moved.calls kj2 _ _ t534 t559 t560 _ ?side1 ?side2 A47.out).mono ?_
       (case side1 => repeat (first | exact (Kd.V_reads' HO536.out).2.2 | (with_reducible refine Kd.C_alloc ?_ _) | (with_reducible refine Kd.C_drewN ?_ _) | (with_reducible refine Kd.C_drew ?_)))
       (case side2 => exact (Kd.V_reads' HO536.out).2.1)
       rintro e w60 ⟨v561, rfl, ho0, hb⟩
       refine ⟨_, rfl, ?_⟩
       replace HO_0 := md_ (Kd.V_elder' (vq HO_0.out) (Kd.R_base ho0) hb)
       replace HO_1 := md_ (Kd.V_elder' (vq HO_1.out) (Kd.R_base ho0) hb)
       replace HO536 := md_ (Kd.V_elder' (vq HO536.out) (Kd.R_base ho0) hb)
       replace HO539 := md_ (Kd.V_elder' (vq HO539.out) (Kd.R_base ho0) hb)
       have HO562 := md_ (Kd.R_lower (Kd.R_newM (M := fun k_ => (w.heap.size ≤ k_)) ho0 (below_size (bq HB.out)) (fun k_ h_ => h_)) (below_size (bq HB.out)))
       replace HB := bb_ HB hb
       (try clear hb)
       (try clear hb2)
       (try clear hk)
       (try clear hi)
       (try clear ho0)
       refine hK.out _ _ trivial (fun hHeld => ?_)
       clear hK K
       refine norm_ (a' := ?_) ?_ ?_
       rotate_left
       ·show Act.put _ (some 64) _ = _
        simp only [Act.put, List.setIfInBounds_toArray, List.set_cons_zero, List.set_cons_succ, i64_w, i32_w]
        rfl
       refine one_ (i := 5) (N := some 67) #[true, true, true, true, true, true, true, true, false, false, false] rfl rfl (one_of HT_.out (by kernel_rfl)) (by decide) (fun K hK => ?_)
       refine goes_ Tryz.func120 (by kernel_rfl) rfl #[.slice (some ad558) t537.length co56, .int .i64 t559] (by rfl) rfl rfl gq ?_
       with_reducible refine (nat_moved.calls kj2 _ _ t537 t559 t563 _ ?side1 ?side2 A48.out).mono ?_
       (case side1 => repeat (first | exact (Kd.V_reads' HO539.out).2.2 | (with_reducible refine Kd.C_alloc ?_ _) | (with_reducible refine Kd.C_drewN ?_ _) | (with_reducible refine Kd.C_drew ?_)))
       (case side2 => exact (Kd.V_reads' HO539.out).2.1)
       rintro e w61 ⟨v564, rfl, ho0, hb⟩
       refine ⟨_, rfl, ?_⟩
       have n0_ := md_ (Kd.V_elder' (vq HO_0.out) (Kd.R_base ho0) hb)
       have n1_ := md_ (Kd.V_elder' (vq HO_1.out) (Kd.R_base ho0) hb)
       have n2_ := md_ (Kd.V_elder' (vq HO536.out) (Kd.R_base ho0) hb)
       have n3_ := md_ (Kd.V_elder' (vq HO539.out) (Kd.R_base ho0) hb)
       have n4_ := md_ (Kd.R_elder' (rq HO562.out) (Kd.R_base ho0) hb)
       have n5_ := md_ (Kd.R_lower (Kd.R_new' (Kd.R_newM (M := fun k_ => (w.heap.size ≤ k_)) ho0 (below_size (bq HB.out)) (fun k_ h_ => h_)) (Kd.R_lt (rq HO562.out))) (below_size (bq HB.out)))
       have n6_ := md_ (below_step (bq HB.out) hb)
       clear HO_0
       clear HO_1
       clear HO536
       clear HO539
       clear HO562
       clear HB
       have HO_0 := n0_
       have HO_1 := n1_
       have HO536 := n2_
       have HO539 := n3_
       have HO562 := n4_
       have HO565 := n5_
       have HB := n6_
       clear n0_ n1_ n2_ n3_ n4_ n5_ n6_
       (try clear hb)
       (try clear hb2)
       (try clear hk)
       (try clear hi)
       (try clear ho0)
       obtain ⟨Ao63, co63, eo63⟩ := Kd.R_slice HO565.out
       (first | subst eo63 | (injection eo63 with f1_ f2_ f3_; have f4_ := f1_.symm; have f5_ := f3_.symm; clear f1_ f2_ f3_; subst f4_; subst f5_))
       have q62 : ((t537.length : Int) : Int) ≤ ((t563.length : Int) : Int) := oq
       obtain ⟨i062, hi062, _, hsz62, _⟩ := info_parts info119
       have hroom62 : t563.length ≤ co63 := (Kd.R_reads' HO565.out).2.1
       have hC62 : Kd.C (Kd.int .u32) _ Ao63 t563.length t563 := (Kd.R_reads' HO565.out).2.2
       have hcut62 := cut_to (P := Tryz.prog) 96 119 .i64 Tryz.underlying96 hi062 Ao63 t563.length co63 (t537.length : Int) oq q62 hroom62
       have hr62 := Kd.C_take (m := ((t537.length : Int) : Int).toNat) hC62 (by omega)
       have hy62 : y566.length = ((t537.length : Int) : Int).toNat := (by rw [Ny566.out, List.length_take]; omega)
       rw [← Ny566.out] at hr62
       rw [← hy62] at hcut62
       have HR569 := md_ hr62
       have HC569 := md_ (show y566.length ≤ co63 from by omega)
       clear hr62 hC62 hroom62 hi062 hsz62
       have KY62 := md_ hy62
       clear hy62
       have KL62 := md_ (show ((t537.length : Int) : Int).toNat ≤ t563.length from by omega)
       replace q62 := eq_true q62
       refine hK.out _ _ trivial (fun hHeld => ?_)
       clear hK K
       refine norm_ (a' := ?_) ?_ ?_
       rotate_left
       ·show Act.put _ (some 67) _ = _
        simp only [Act.put, List.setIfInBounds_toArray, List.set_cons_zero, List.set_cons_succ, i64_w, i32_w]
        rfl
       refine pq_ 8 (some 70) HT_ ?_
       refine pq_ 9 (some 10) HT_ ?_
       refine pq_ 10 (some 11) HT_ ?_
       refine done_ (done_of HT_.out (by kernel_rfl)) ?_
       try go_wp2_with (first | ((with_reducible refine gate_dst (N := 78) rfl ?_); refine Kd.R_make (Kd.int .u32) _ 119 rfl (N := 78) rfl 96 _ _ rfl ji51 rfl rfl Tryz.underlying96 (.int .u32 0) 4 info119 rfl (by decide) (by omega) 0 (ok := fun _ => True) (okp := fun _ => True) rfl (fun _ hk => hk) trivial oq (Nat.le_trans (Nat.mul_le_mul_right _ (oq : ji51.toNat ≤ 70368744177664)) (by omega)) (Below.refl _ _) (Nat.le_refl _) ?_; intro v571 w64 ho65 hb hg_ hnew_; clear hg_ hnew_; (first | rw [← Ny570.out] at ho65 | (simp only [Int.reduceToNat] at ho65; rw [← Ny570.out] at ho65)); have n0_ := md_ (Kd.V_elder' (vq HO_0.out) (Kd.R_base ho65) hb); have n1_ := md_ (Kd.V_elder' (vq HO_1.out) (Kd.R_base ho65) hb); have n2_ := md_ (Kd.V_elder' (vq HO536.out) (Kd.R_base ho65) hb); have n3_ := md_ (Kd.V_elder' (vq HO539.out) (Kd.R_base ho65) hb); have n4_ := md_ (Kd.R_elder' (rq HO562.out) (Kd.R_base ho65) hb); have n5_ := md_ (Kd.R_elder' (rq HO565.out) (Kd.R_base ho65) hb); have n6_ := md_ (Kd.R_lower (Kd.R_new' (Kd.R_new' (Kd.R_newM (M := fun k_ => (w.heap.size ≤ k_)) ho65 (below_size (bq HB.out)) (fun k_ h_ => h_)) (Kd.R_lt (rq HO562.out))) (Kd.R_lt (rq HO565.out))) (below_size (bq HB.out))); have n7_ := md_ (Kd.C_below (by repeat (first | (with_reducible exact HR569.out) | (with_reducible refine Kd.C_alloc ?_ _) | (with_reducible refine Kd.C_drewN ?_ _) | (with_reducible refine Kd.C_drew ?_) | exact HR569.out)) hb); have n8_ := md_ (below_step (bq HB.out) hb); clear HO_0; clear HO_1; clear HO536; clear HO539; clear HO562; clear HO565; clear HR569; clear HB; have HO_0 := n0_; have HO_1 := n1_; have HO536 := n2_; have HO539 := n3_; have HO562 := n4_; have HO565 := n5_; have HO572 := n6_; have HR569 := n7_; have HB := n8_; clear n0_ n1_ n2_ n3_ n4_ n5_ n6_ n7_ n8_; clear hb ho65; obtain ⟨Ao66, co66, eo66⟩ := Kd.R_slice HO572.out; subst eo66))
       go_loopg [13] kj2 (fun kq v13 w' => ∃ (x4_2 : List Int) (x10_2 : List Int) (x13_2 : Int), v13 = .int .i64 x13_2 ∧ Aside0 (nat_Divide.l0 kq x4_2 t559 x10_2 y566 (y566.length : Int) x13_2 = some (r1, r2, r3)) ∧ Aside0 (kq ≤ kj2) ∧ Aside0 (Kd.R (Kd.int .u32) 119 w' w.heap.size (fun k_ => (w.heap.size ≤ k_) ∧ some k_ ≠ (v561 : Value).ownBlock) (.slice Ao66 y570.length co66) x4_2) ∧ Aside0 (Kd.R (Kd.int .u32) 119 w' w.heap.size (fun k_ => (w.heap.size ≤ k_) ∧ some k_ ≠ ((.slice Ao66 y570.length co66) : Value).ownBlock) v561 x10_2) ∧ Aside0 (Kd.R (Kd.int .u32) 119 w' w.heap.size (fun k_ => ((w.heap.size ≤ k_) ∧ some k_ ≠ (v561 : Value).ownBlock) ∧ some k_ ≠ ((.slice Ao66 y570.length co66) : Value).ownBlock) (.slice Ao63 t563.length co63) t563) ∧ Aside0 (Below w.heap.size w w'))
       case atStart => exact ⟨(y570), (t560), (wrap64 ((y570.length : Int) - 1)), aq, H', ⟨Nat.le_refl _⟩, ⟨by (with_reducible repeat (first | apply Kd.R_alloc | apply Kd.R_drewN | apply Kd.R_drew)); exact Kd.R_mono HO572.out (fun _ hk => ⟨hk.1.1.1, hk.1.2⟩)⟩, ⟨by (with_reducible repeat (first | apply Kd.R_alloc | apply Kd.R_drewN | apply Kd.R_drew)); exact Kd.R_mono HO562.out (fun _ hk => ⟨hk.1.1.1, hk.2⟩)⟩, ⟨by (with_reducible repeat (first | apply Kd.R_alloc | apply Kd.R_drewN | apply Kd.R_drew)); exact Kd.R_mono HO565.out (fun _ hk => ⟨⟨hk.1.1.1, hk.1.2⟩, hk.2⟩)⟩, ⟨bq HB.out⟩⟩
       case round =>
        clear H'
        (try clear c1); (try clear c2); (try clear p2); (try clear c3); (try clear c4); (try clear c5); (try clear p5); (try clear q5); (try clear hx5); (try clear qi5); (try clear p6); (try clear q6); (try clear c10); (try clear c13); (try clear c13b0); (try clear c13b1); (try clear c13b2); (try clear c18); (try clear c18b0); (try clear c26); (try clear c26b0); (try clear c26b1); (try clear c27); (try clear c27b0); (try clear c27b1); (try clear c31); (try clear c35); (try clear c42); (try clear c44); (try clear c44b0); (try clear c45); (try clear c45b0); (try clear c47); (try clear c49); (try clear c49b0); (try clear c49b1); (try clear c50); (try clear c50b0); (try clear c50b1); (try clear c52); (try clear c52b0); (try clear c52b1); (try clear c53); (try clear c53b0); (try clear c53b1); (try clear p54); (try clear q54); (try clear hx54); (try clear qi54); (try clear p55); (try clear q55); (try clear hx55); (try clear q62); (try clear p64); (try clear hx544_0); (try clear hx558_0); (try clear p2); (try clear p544); (try clear p558); (try clear q544); (try clear q558); (try clear q62)
        obtain ⟨x4_2, x10_2, x13_2, rfl, HA, HK2, HO_4, HO_10, HO_11, HB⟩ := hrel
        have hl4_2 := (Kd.R_reads' HO_4.out).1
        rw [hl4_2] at HO_4
        (try simp only [hl4_2])
        (try simp only [hl4_2] at HO_10)
        (try simp only [hl4_2] at HO_11)
        cases gk with
        | zero => exact absurd HA.out (by simp [nat_Divide.l0])
        | succ k2 =>
         have H := HA.out
         clear HA
         simp only [nat_Divide.l0] at H
         by_cases c67 : x13_2 ≥ 0
         ·rw [if_pos c67] at H
          have c67b0 : decide (0 ≤ x13_2) = true := decide_eq_true c67
          clear c67
          obtain ⟨ji68, hji68⟩ : ∃ j_ : Int, (wrap64 (x13_2 + (y566.length : Int))) = j_ := ⟨_, rfl⟩
          first | rw [hji68] at H | simp only [hji68] at H
          have hji68w : (IntKind.i64.wrap (x13_2 + (y566.length : Int))) = ji68 := (i64_w _).trans hji68
          obtain ⟨c69b0, H⟩ := od_ H
          obtain ⟨c70b0, H⟩ := od_ H
          obtain ⟨ji71, hji71⟩ : ∃ j_ : Int, (wrap64 ((ji68) - 1)) = j_ := ⟨_, rfl⟩
          first | rw [hji71] at H | simp only [hji71] at H
          have hji71w : (IntKind.i64.wrap ((ji68) - 1)) = ji71 := (i64_w _).trans hji71
          obtain ⟨c72b0, H⟩ := od_ H
          obtain ⟨c73b0, H⟩ := od_ H
          obtain ⟨ji74, hji74⟩ : ∃ j_ : Int, (wrap64 ((ji68) - 2)) = j_ := ⟨_, rfl⟩
          first | rw [hji74] at H | simp only [hji74] at H
          have hji74w : (IntKind.i64.wrap ((ji68) - 2)) = ji74 := (i64_w _).trans hji74
          obtain ⟨c75b0, H⟩ := od_ H
          obtain ⟨c76b0, H⟩ := od_ H
          obtain ⟨ji77, hji77⟩ : ∃ j_ : Int, (wrap64 ((y566.length : Int) - 1)) = j_ := ⟨_, rfl⟩
          first | rw [hji77] at H | simp only [hji77] at H
          have hji77w : (IntKind.i64.wrap ((y566.length : Int) - 1)) = ji77 := (i64_w _).trans hji77
          obtain ⟨c78b0, H⟩ := od_ H
          obtain ⟨c79b0, H⟩ := od_ H
          obtain ⟨ji80, hji80⟩ : ∃ j_ : Int, (wrap64 ((y566.length : Int) - 2)) = j_ := ⟨_, rfl⟩
          first | rw [hji80] at H | simp only [hji80] at H
          have hji80w : (IntKind.i64.wrap ((y566.length : Int) - 2)) = ji80 := (i64_w _).trans hji80
          obtain ⟨c81b0, H⟩ := od_ H
          obtain ⟨c82b0, H⟩ := od_ H
          replace H := Option.bind_eq_some_iff.mp H
          obtain ⟨t578, A830, H⟩ := H
          have A83 := md_ A830
          clear A830
          replace H := Option.bind_eq_some_iff.mp H
          obtain ⟨⟨t579, t580⟩, A840, H⟩ := H
          dsimp only at H
          have A84 := md_ A840
          clear A840
          have H' := md_ H
          clear H
          try go_wp2
          replace HO_4 := md_ (Kd.R_drew HO_4.out)
          replace HO_10 := md_ (Kd.R_drew HO_10.out)
          replace HB := md_ (below_drew1 HB.out)
          replace HO_11 := md_ (Kd.R_drew HO_11.out)
          obtain ⟨Ao86, co86, eo86⟩ := Kd.R_slice HO_10.out
          (first | subst eo86 | (injection eo86 with f1_ f2_ f3_; have f4_ := f1_.symm; have f5_ := f3_.symm; clear f1_ f2_ f3_; subst f4_; subst f5_))
          have p573 : 0 ≤ ((ji68) : Int) := oq
          have q573 : (ji68) < (x10_2.length : Int) := oq
          obtain ⟨ad573, e573, hx573_0⟩ := Kd.at_int (Kd.R_reads' HO_10.out).2.2 (ji68) p573 q573
          cases e573
          replace p573 := eq_true p573
          replace q573 := eq_true q573
          have p574 : 0 ≤ ((ji71) : Int) := oq
          have q574 : (ji71) < (x10_2.length : Int) := oq
          obtain ⟨ad574, e574, hx574_0⟩ := Kd.at_int (Kd.R_reads' HO_10.out).2.2 (ji71) p574 q574
          obtain rfl : ad573 = ad574 := (by injection e574)
          replace p574 := eq_true p574
          replace q574 := eq_true q574
          have p575 : 0 ≤ ((ji74) : Int) := oq
          have q575 : (ji74) < (x10_2.length : Int) := oq
          obtain ⟨ad575, e575, hx575_0⟩ := Kd.at_int (Kd.R_reads' HO_10.out).2.2 (ji74) p575 q575
          obtain rfl : ad573 = ad575 := (by injection e575)
          replace p575 := eq_true p575
          replace q575 := eq_true q575
          have HRV := md_ (nat_cutC Ny566.out (Kd.R_reads' HO_11.out).2.2 KL62.out)
          have p576 : 0 ≤ ((ji77) : Int) := oq
          have q576 : (ji77) < (y566.length : Int) := oq
          obtain ⟨ad576, e576, hx576_0⟩ := Kd.at_int HRV.out (ji77) p576 q576
          have hw576_0 := hx576_0
          cases e576
          skip
          replace p576 := eq_true p576
          replace q576 := eq_true q576
          have p577 : 0 ≤ ((ji80) : Int) := oq
          have q577 : (ji80) < (y566.length : Int) := oq
          obtain ⟨ad577, e577, hx577_0⟩ := Kd.at_int HRV.out (ji80) p577 q577
          have hw577_0 := hx577_0
          obtain rfl : ad576 = ad577 := (by injection e577)
          skip
          replace p577 := eq_true p577
          replace q577 := eq_true q577
          refine start_ (n := 32) (S := fun w' => w'.cell? (ad573.add ((ji68)).toNat) = some (.int .u32 (rd x10_2 (ji68))) ∧ w'.cell? (ad573.add ((ji71)).toNat) = some (.int .u32 (rd x10_2 (ji71))) ∧ w'.cell? (ad573.add ((ji74)).toNat) = some (.int .u32 (rd x10_2 (ji74))) ∧ w'.cell? (ad576.add ((ji77)).toNat) = some (.int .u32 (rd y566 (ji77))) ∧ w'.cell? (ad576.add ((ji80)).toNat) = some (.int .u32 (rd y566 (ji80)))) (ds := []) #[false, false, false, false, false, false, false, false, false, false, false, false, false, false, false, false, false, false, false, false, false, false, false, false, false, false, false, false, false, false, false, false] (by kernel_rfl) rfl rfl ⟨hx573_0, hx574_0, hx575_0, hw576_0, hw577_0⟩ (fun hHeld => ?_); refine with_tabW nat_Divide.tab18 nat_Divide.bits18 (fun HT_ HW_ => ?_)
          generalize wr.drew = w85 at HO_4 HO_10 HO_11 HRV hw576_0 hw577_0 HB hx573_0 hx574_0 hx575_0 hx576_0 hx577_0 hHeld ⊢
          refine pq_ 0 (some 86) HT_ ?_
          refine pq_ 1 (some 87) HT_ ?_
          refine pq_ 2 (some 88) HT_ ?_
          refine pq_ 3 (some 89) HT_ ?_
          refine pq_ 4 (some 90) HT_ ?_
          refine pq_ 6 (some 92) HT_ ?_
          refine pq_ 7 (some 93) HT_ ?_
          refine pq_ 8 (some 94) HT_ ?_
          refine pq_ 9 (some 95) HT_ ?_
          refine pq_ 10 (some 96) HT_ ?_
          refine pq_ 11 (some 97) HT_ ?_
          refine pq_ 13 (some 99) HT_ ?_
          refine pq_ 14 (some 100) HT_ ?_
          refine pq_ 15 (some 101) HT_ ?_
          refine pq_ 16 (some 102) HT_ ?_
          refine pq_ 17 (some 103) HT_ ?_
          refine pq_ 18 (some 104) HT_ ?_
          refine pq_ 20 (some 106) HT_ ?_
          refine pq_ 21 (some 107) HT_ ?_
          refine pq_ 22 (some 108) HT_ ?_
          refine pq_ 23 (some 109) HT_ ?_
          refine pq_ 25 (some 111) HT_ ?_
          refine pq_ 26 (some 112) HT_ ?_
          refine pq_ 27 (some 113) HT_ ?_
          refine pq_ 28 (some 114) HT_ ?_
          refine take_ (i := 5) (N := some 91) (v := ?_) (a' := ?_) #[true, true, true, true, true, true, true, true, true, true, true, true, false, true, true, true, true, true, true, false, true, true, true, true, false, true, true, true, true, false, false, false] rfl rfl (take_ofW HT_.out HW_.out (by kernel_rfl)) (fun _ _ _ h => h) (Or.inl ⟨by rfl, ?_⟩) hHeld ?_ ?_
          rotate_left
          ·rintro w' ⟨s0, s1, s2, s3, s4⟩
           go_simp
           with_reducible rfl
          rotate_left
          ·simp only [Act.put, List.setIfInBounds_toArray, List.set_cons_zero, List.set_cons_succ, i64_w, i32_w]
           rfl
          refine take_ (i := 12) (N := some 98) (v := ?_) (a' := ?_) #[true, true, true, true, true, true, true, true, true, true, true, true, true, true, true, true, true, true, true, false, true, true, true, true, false, true, true, true, true, false, false, false] rfl rfl (take_ofW HT_.out HW_.out (by kernel_rfl)) (fun _ _ _ h => h) (Or.inl ⟨by rfl, ?_⟩) hHeld ?_ ?_
          rotate_left
          ·rintro w' ⟨s0, s1, s2, s3, s4⟩
           go_simp
           with_reducible rfl
          rotate_left
          ·simp only [Act.put, List.setIfInBounds_toArray, List.set_cons_zero, List.set_cons_succ, i64_w, i32_w]
           rfl
          refine take_ (i := 19) (N := some 105) (v := ?_) (a' := ?_) #[true, true, true, true, true, true, true, true, true, true, true, true, true, true, true, true, true, true, true, true, true, true, true, true, false, true, true, true, true, false, false, false] rfl rfl (take_ofW HT_.out HW_.out (by kernel_rfl)) (fun _ _ _ h => h) (Or.inl ⟨by rfl, ?_⟩) hHeld ?_ ?_
          rotate_left
          ·rintro w' ⟨s0, s1, s2, s3, s4⟩
           go_simp
           with_reducible rfl
          rotate_left
          ·simp only [Act.put, List.setIfInBounds_toArray, List.set_cons_zero, List.set_cons_succ, i64_w, i32_w]
           rfl
          refine take_ (i := 24) (N := some 110) (v := ?_) (a' := ?_) #[true, true, true, true, true, true, true, true, true, true, true, true, true, true, true, true, true, true, true, true, true, true, true, true, true, true, true, true, true, false, false, false] rfl rfl (take_ofW HT_.out HW_.out (by kernel_rfl)) (fun _ _ _ h => h) (Or.inl ⟨by rfl, ?_⟩) hHeld ?_ ?_
          rotate_left
          ·rintro w' ⟨s0, s1, s2, s3, s4⟩
           go_simp
           with_reducible rfl
          rotate_left
          ·simp only [Act.put, List.setIfInBounds_toArray, List.set_cons_zero, List.set_cons_succ, i64_w, i32_w]
           rfl
          refine take_ (i := 29) (N := some 115) (v := ?_) (a' := ?_) #[true, true, true, true, true, true, true, true, true, true, true, true, true, true, true, true, true, true, true, true, true, true, true, true, true, true, true, true, true, true, false, false] rfl rfl (take_ofW HT_.out HW_.out (by kernel_rfl)) (fun _ _ _ h => h) (Or.inl ⟨by rfl, ?_⟩) hHeld ?_ ?_
          rotate_left
          ·rintro w' ⟨s0, s1, s2, s3, s4⟩
           go_simp
           with_reducible rfl
          rotate_left
          ·simp only [Act.put, List.setIfInBounds_toArray, List.set_cons_zero, List.set_cons_succ, i64_w, i32_w]
           rfl
          refine one_ (i := 30) (N := some 116) #[true, true, true, true, true, true, true, true, true, true, true, true, true, true, true, true, true, true, true, true, true, true, true, true, true, true, true, true, true, true, true, false] rfl rfl (one_of HT_.out (by kernel_rfl)) (by decide) (fun K hK => ?_)
          refine goes_ Tryz.func121 (by kernel_rfl) rfl #[.int .u32 (rd x10_2 (ji68)), .int .u32 (rd x10_2 (ji71)), .int .u32 (rd x10_2 (ji74)), .int .u32 (rd y566 (ji77)), .int .u32 (rd y566 (ji80))] (by rfl) rfl rfl (by (try simp only [List.map_toArray, List.map_cons, List.map_nil]); first | done | (simp only [hji68, hji71, hji74, hji77, hji80]; rfl) | rfl | (simp only [List.length_drop, List.length_take]; rfl)) ?_
          with_reducible refine (nat_guess.calls k2 (rd x10_2 (ji68)) (rd x10_2 (ji71)) (rd x10_2 (ji74)) (rd y566 (ji77)) (rd y566 (ji80)) t578 _ A83.out).mono ?_
          rintro e w' ⟨rfl, ⟨nd, rfl⟩⟩
          refine ⟨_, rfl, ?_⟩
          refine hK.out _ _ ⟨hHeld.1, hHeld.2.1, hHeld.2.2.1, hHeld.2.2.2.1, hHeld.2.2.2.2⟩ (fun hHeld => ?_)
          clear hK K
          refine norm_ (a' := ?_) ?_ ?_
          rotate_left
          ·show Act.put _ (some 116) _ = _
           simp only [Act.put, List.setIfInBounds_toArray, List.set_cons_zero, List.set_cons_succ, i64_w, i32_w]
           rfl
          refine pq_ 31 (some 14) HT_ ?_
          refine done_ (done_of HT_.out (by kernel_rfl)) ?_
          obtain ⟨jp1, hjp1⟩ : ∃ j_ : Int, (wrap64 (ji68 + 1)) = j_ := ⟨_, rfl⟩
          have hjp1w : (IntKind.i64.wrap (ji68 + 1)) = jp1 := (i64_w _).trans hjp1
          have hpt1 : 0 ≤ x13_2 ∧ x13_2 < jp1 ∧ jp1 ≤ (x10_2.length : Int) := by have h_ := nat_takeAt_some A84.out; rw [hji68, hjp1] at h_; exact h_
          obtain ⟨i0p1, hi0p1, _, hszp1, _⟩ := info_parts info119
          have hcutp1 := cut_mid (P := Tryz.prog) 96 119 .i64 .i64 Tryz.underlying96 hi0p1 hszp1 ad573 x10_2.length co86 x13_2 jp1 hpt1.1 hpt1.2.1 (Int.le_trans hpt1.2.2 (Int.ofNat_le.mpr (Kd.R_reads' HO_10.out).2.1))
          clear hi0p1 hszp1
          try go_wp2_with (first | ((with_reducible refine gate_callee (f := 122) rfl ?_); refine goesL_ (some 126) rfl rfl Tryz.func122 (by kernel_rfl) rfl #[.slice (some (ad573.add x13_2.toNat)) (jp1.toNat - x13_2.toNat) (co86 - x13_2.toNat), .slice (some ad576) y566.length co63, .int .u64 t578] rfl gq ?_; (with_reducible refine (nat_take_at k2 (fun k_ => some k_ = (.slice (some ad573) x10_2.length co86 : Value).ownBlock) ad573 x10_2.length co86 x10_2 x13_2 (y566.length : Int) _ _ y566 t578 t579 t580 w _ jp1 (by rw [hji68]; exact hjp1) ?side1 ?side2 ?side3 ?side4 A84.out).mono ?_); (case side1 => repeat (first | (with_reducible first | exact HB.out | apply below_alloc | apply pw_below_drewN | apply below_drew1) | exact HB.out)); (case side2 => exact Kd.R_tight rfl HO_10.out); (case side3 => exact fun W_ hk_ => nat_cutC Ny566.out (Kd.R_reads' (Kd.R_keptB HO_11.out hk_ (fun k_ h1_ h2_ => h1_.1.2 h2_))).2.2 KL62.out); (case side4 => exact Nat.le_trans (nat_cutL Ny566.out) (Kd.R_reads' HO_11.out).2.1); rintro e w87 ⟨rfl, hy0, hb, hkp⟩; refine ⟨_, rfl, ?_⟩; have n0_ := md_ (Kd.R_mono (ok' := fun k_ => (w.heap.size ≤ k_) ∧ some k_ ≠ (.slice (some ad573) x10_2.length co86 : Value).ownBlock) (Kd.R_keptB (HO_4.out) hkp (fun k_ hk_ hs_ => (hk_.2) hs_)) (fun k_ hk_ => ⟨hk_.1.1, hk_.1.2⟩)); have n1_ := md_ (Kd.R_reok rfl hy0 (fun k_ e_ => HO_10.out.1 k_ e_)); have n3_ := md_ (Kd.R_mono (ok' := fun k_ => ((w.heap.size ≤ k_) ∧ some k_ ≠ ((.slice (some ad573) x10_2.length co86) : Value).ownBlock) ∧ some k_ ≠ ((.slice Ao66 x4_2.length co66) : Value).ownBlock) (Kd.R_keptB (HO_11.out) hkp (fun k_ hk_ hs_ => hk_.1.2 hs_)) (fun k_ hk_ => hk_.1)); have n2_ := md_ (hb); clear HO_11; have HO_11 := n3_; clear n3_; clear HO_4; clear HO_10; clear HB; have HO_4 := n0_; have HO_10 := n1_; have HB := n2_; clear n0_ n1_ n2_; (try clear hb); (try clear hkp); (try clear hy0)))
          go_loopg [14, 15] k2 (fun kq v14 v15 w' => ∃ (x4_3 : List Int) (x10_3 : List Int) (x14_3 : Int) (x15_3 : Bool), v14 = .int .u64 x14_3 ∧ v15 = .bool x15_3 ∧ Aside0 (nat_Divide.l1 kq x4_3 t559 x10_3 y566 (y566.length : Int) x13_2 x14_3 x15_3 = some (r1, r2, r3)) ∧ Aside0 (kq ≤ k2) ∧ Aside0 (Kd.R (Kd.int .u32) 119 w' w.heap.size (fun k_ => (w.heap.size ≤ k_) ∧ some k_ ≠ ((.slice (some ad573) x10_2.length co86) : Value).ownBlock) (.slice Ao66 x4_2.length co66) x4_3) ∧ Aside0 (Kd.R (Kd.int .u32) 119 w' w.heap.size (fun k_ => (w.heap.size ≤ k_) ∧ some k_ ≠ ((.slice Ao66 x4_2.length co66) : Value).ownBlock) (.slice (some ad573) x10_2.length co86) x10_3) ∧ Aside0 (Kd.R (Kd.int .u32) 119 w' w.heap.size (fun k_ => ((w.heap.size ≤ k_) ∧ some k_ ≠ ((.slice (some ad573) x10_2.length co86) : Value).ownBlock) ∧ some k_ ≠ ((.slice Ao66 x4_2.length co66) : Value).ownBlock) (.slice (some ad576) t563.length co63) t563) ∧ Aside0 (Below w.heap.size w w'))
          case atStart => exact ⟨(x4_2), (t580), (t578), (t579), aq, aq, H', ⟨Nat.le_refl _⟩, ⟨by (try simp only [hl4_2]); (with_reducible repeat (first | apply Kd.R_alloc | apply Kd.R_drewN | apply Kd.R_drew)); exact HO_4.out⟩, ⟨by (try simp only [hl4_2]); (with_reducible repeat (first | apply Kd.R_alloc | apply Kd.R_drewN | apply Kd.R_drew)); exact HO_10.out⟩, ⟨by (try simp only [hl4_2]); (with_reducible repeat (first | apply Kd.R_alloc | apply Kd.R_drewN | apply Kd.R_drew)); exact HO_11.out⟩, ⟨bq HB.out⟩⟩
          case round =>
           clear H'
           (try clear c1); (try clear c2); (try clear p2); (try clear c3); (try clear c4); (try clear c5); (try clear p5); (try clear q5); (try clear hx5); (try clear qi5); (try clear c6); (try clear p6); (try clear q6); (try clear c7); (try clear c8); (try clear c10); (try clear c13); (try clear c13b0); (try clear c13b1); (try clear c13b2); (try clear c18); (try clear c18b0); (try clear c26); (try clear c26b0); (try clear c26b1); (try clear c27); (try clear c27b0); (try clear c27b1); (try clear c31); (try clear c35); (try clear c42); (try clear c44); (try clear c44b0); (try clear c45); (try clear c45b0); (try clear c47); (try clear c49); (try clear c49b0); (try clear c49b1); (try clear c50); (try clear c50b0); (try clear c50b1); (try clear c51); (try clear c52); (try clear c52b0); (try clear c52b1); (try clear c53); (try clear c53b0); (try clear c53b1); (try clear p54); (try clear q54); (try clear hx54); (try clear qi54); (try clear p55); (try clear q55); (try clear hx55); (try clear p57); (try clear q57); (try clear hx57); (try clear q62); (try clear p64); (try clear c67); (try clear c67b0); (try clear c69); (try clear c69b0); (try clear c70); (try clear c70b0); (try clear c72); (try clear c72b0); (try clear c73); (try clear c73b0); (try clear c75); (try clear c75b0); (try clear c76); (try clear c76b0); (try clear c78); (try clear c78b0); (try clear c79); (try clear c79b0); (try clear c81); (try clear c81b0); (try clear c82); (try clear c82b0); (try clear hx544_0); (try clear hx558_0); (try clear hx573_0); (try clear hx574_0); (try clear hx575_0); (try clear hx576_0); (try clear hx577_0); (try clear p2); (try clear p5); (try clear p54); (try clear p544); (try clear p55); (try clear p558); (try clear p573); (try clear p574); (try clear p575); (try clear p576); (try clear p577); (try clear p6); (try clear p64); (try clear q5); (try clear q54); (try clear q544); (try clear q55); (try clear q558); (try clear q573); (try clear q574); (try clear q575); (try clear q576); (try clear q577); (try clear q6); (try clear q62)
           obtain ⟨x4_3, x10_3, x14_3, x15_3, rfl, rfl, HA, HK3, HO_4, HO_10, HO_11, HB⟩ := hrel
           have hl4_3 := (Kd.R_reads' HO_4.out).1
           rw [hl4_3] at HO_4
           (try simp only [hl4_3])
           (try simp only [hl4_3] at HO_10)
           (try simp only [hl4_3] at HO_11)
           have hl10_3 := (Kd.R_reads' HO_10.out).1
           rw [hl10_3] at HO_10
           (try simp only [hl10_3])
           (try simp only [hl10_3] at HO_4)
           (try simp only [hl10_3] at HO_11)
           cases gk with
           | zero => exact absurd HA.out (by simp [nat_Divide.l1])
           | succ k3 =>
            have H := HA.out
            clear HA
            simp only [nat_Divide.l1] at H
            by_cases c88 : x15_3 = true
            ·subst c88
             rw [if_pos rfl] at H
             replace H := Option.bind_eq_some_iff.mp H
             obtain ⟨t581, A890, H⟩ := H
             have A89 := md_ A890
             clear A890
             obtain ⟨ji90, hji90⟩ : ∃ j_ : Int, (wrap64 (x13_2 + (y566.length : Int))) = j_ := ⟨_, rfl⟩
             first | rw [hji90] at H | simp only [hji90] at H
             (try rw [hji90] at A89)
             have hji90w : (IntKind.i64.wrap (x13_2 + (y566.length : Int))) = ji90 := (i64_w _).trans hji90
             obtain ⟨c91b0, H⟩ := od_ H
             obtain ⟨c92b0, H⟩ := od_ H
             have H' := md_ H
             clear H
             have eji90 : ji90 = ji68 := hji90.symm.trans hji68
             subst eji90
             have hpt2 : 0 ≤ x13_2 ∧ x13_2 < jp1 ∧ jp1 ≤ (x10_3.length : Int) := by have h_ := nat_giveAt_some A89.out; rw [hji90, hjp1] at h_; exact h_
             obtain ⟨i0p2, hi0p2, _, hszp2, _⟩ := info_parts info119
             have hcutp2 := cut_mid (P := Tryz.prog) 96 119 .i64 .i64 Tryz.underlying96 hi0p2 hszp2 ad573 x10_3.length co86 x13_2 jp1 hpt2.1 hpt2.2.1 (Int.le_trans hpt2.2.2 (Int.ofNat_le.mpr (Kd.R_reads' HO_10.out).2.1))
             clear hi0p2 hszp2
             go_wp2_with (first | ((with_reducible refine gate_callee (f := 123) rfl ?_); refine goesL_ (some 145) rfl rfl Tryz.func123 (by kernel_rfl) rfl #[.slice (some (ad573.add x13_2.toNat)) (jp1.toNat - x13_2.toNat) (co86 - x13_2.toNat), .slice (some ad576) y566.length co63] rfl gq ?_; (with_reducible refine (nat_give_at k3 (fun k_ => some k_ = (.slice (some ad573) x10_3.length co86 : Value).ownBlock) ad573 x10_3.length co86 x10_3 x13_2 (y566.length : Int) _ _ y566 t581 w _ jp1 (by rw [hji90]; exact hjp1) ?side1 ?side2 ?side3 ?side4 A89.out).mono ?_); (case side1 => repeat (first | (with_reducible first | exact HB.out | apply below_alloc | apply pw_below_drewN | apply below_drew1) | exact HB.out)); (case side2 => exact Kd.R_tight rfl HO_10.out); (case side3 => exact fun W_ hk_ => nat_cutC Ny566.out (Kd.R_reads' (Kd.R_keptB HO_11.out hk_ (fun k_ h1_ h2_ => h1_.1.2 h2_))).2.2 KL62.out); (case side4 => exact Nat.le_trans (nat_cutL Ny566.out) (Kd.R_reads' HO_11.out).2.1); rintro e w93 ⟨rfl, hy0, hb, hkp⟩; refine ⟨_, rfl, ?_⟩; have n0_ := md_ (Kd.R_mono (ok' := fun k_ => (w.heap.size ≤ k_) ∧ some k_ ≠ (.slice (some ad573) x10_3.length co86 : Value).ownBlock) (Kd.R_keptB (HO_4.out) hkp (fun k_ hk_ hs_ => (hk_.2) hs_)) (fun k_ hk_ => ⟨hk_.1.1, hk_.1.2⟩)); have n1_ := md_ (Kd.R_reok rfl hy0 (fun k_ e_ => HO_10.out.1 k_ e_)); have n3_ := md_ (Kd.R_mono (ok' := fun k_ => ((w.heap.size ≤ k_) ∧ some k_ ≠ ((.slice (some ad573) x10_3.length co86) : Value).ownBlock) ∧ some k_ ≠ ((.slice Ao66 x4_3.length co66) : Value).ownBlock) (Kd.R_keptB (HO_11.out) hkp (fun k_ hk_ hs_ => hk_.1.2 hs_)) (fun k_ hk_ => hk_.1)); have n2_ := md_ (hb); clear HO_11; have HO_11 := n3_; clear n3_; clear HO_4; clear HO_10; clear HB; have HO_4 := n0_; have HO_10 := n1_; have HB := n2_; clear n0_ n1_ n2_; (try clear hb); (try clear hkp); (try clear hy0); have p582 : 0 ≤ ((ji90) : Int) := oq; have q582 : (ji90) < (t581.length : Int) := (by have h_ : ((ji90) : Int) < ((x10_3.length : Int) : Int) := oq; have e_ := (Kd.R_reads' HO_10.out).1; omega); have ql582 : (((ji90) : Int) < ((x10_3.length : Int) : Int)) = True := eq_true oq; obtain ⟨ad582, e582, hx582_0⟩ := Kd.at_int (Kd.R_reads' HO_10.out).2.2 (ji90) p582 q582; obtain rfl : ad573 = ad582 := (by injection e582); replace p582 := eq_true p582; replace q582 := eq_true q582) | (go_at_call 123; (with_reducible refine (nat_give_at k3 (fun k_ => some k_ = (.slice (some ad573) x10_3.length co86 : Value).ownBlock) ad573 x10_3.length co86 x10_3 x13_2 (y566.length : Int) _ _ y566 t581 w _ jp1 (by rw [hji90]; exact hjp1) ?side1 ?side2 ?side3 ?side4 A89.out).mono ?_); (case side1 => repeat (first | (with_reducible first | exact HB.out | apply below_alloc | apply pw_below_drewN | apply below_drew1) | exact HB.out)); (case side2 => exact Kd.R_tight rfl HO_10.out); (case side3 => exact fun W_ hk_ => nat_cutC Ny566.out (Kd.R_reads' (Kd.R_keptB HO_11.out hk_ (fun k_ h1_ h2_ => h1_.1.2 h2_))).2.2 KL62.out); (case side4 => exact Nat.le_trans (nat_cutL Ny566.out) (Kd.R_reads' HO_11.out).2.1); rintro e w93 ⟨rfl, hy0, hb, hkp⟩; have n0_ := md_ (Kd.R_mono (ok' := fun k_ => (w.heap.size ≤ k_) ∧ some k_ ≠ (.slice (some ad573) x10_3.length co86 : Value).ownBlock) (Kd.R_keptB (HO_4.out) hkp (fun k_ hk_ hs_ => (hk_.2) hs_)) (fun k_ hk_ => ⟨hk_.1.1, hk_.1.2⟩)); have n1_ := md_ (Kd.R_reok rfl hy0 (fun k_ e_ => HO_10.out.1 k_ e_)); have n3_ := md_ (Kd.R_mono (ok' := fun k_ => ((w.heap.size ≤ k_) ∧ some k_ ≠ ((.slice (some ad573) x10_3.length co86) : Value).ownBlock) ∧ some k_ ≠ ((.slice Ao66 x4_3.length co66) : Value).ownBlock) (Kd.R_keptB (HO_11.out) hkp (fun k_ hk_ hs_ => hk_.1.2 hs_)) (fun k_ hk_ => hk_.1)); have n2_ := md_ (hb); clear HO_11; have HO_11 := n3_; clear n3_; clear HO_4; clear HO_10; clear HB; have HO_4 := n0_; have HO_10 := n1_; have HB := n2_; clear n0_ n1_ n2_; (try clear hb); (try clear hkp); (try clear hy0); have p582 : 0 ≤ ((ji90) : Int) := oq; have q582 : (ji90) < (t581.length : Int) := (by have h_ : ((ji90) : Int) < ((x10_3.length : Int) : Int) := oq; have e_ := (Kd.R_reads' HO_10.out).1; omega); have ql582 : (((ji90) : Int) < ((x10_3.length : Int) : Int)) = True := eq_true oq; obtain ⟨ad582, e582, hx582_0⟩ := Kd.at_int (Kd.R_reads' HO_10.out).2.2 (ji90) p582 q582; obtain rfl : ad573 = ad582 := (by injection e582); replace p582 := eq_true p582; replace q582 := eq_true q582))
             (try simp only [← hl4_3, ← hl10_3])
             go_roundg k3
             case measure => have := HJ2.out; have := HK2.out; have := HK3.out; omega
             case rel => exact ⟨(x4_3), (t581), (IntKind.u64.wrap (x14_3 - 1)), (((rd t581 (ji90)) != 0)), aq, (by first | rfl | (simp; done) | (simp only [← hji90] <;> (first | rfl | simp)) | (simp [*]; done)), H', ⟨by have := HJ2.out; have := HK2.out; have := HK3.out; omega⟩, ⟨by (try simp only [hl4_2]); (try simp only [hl4_3]); (try simp only [hl10_3]); (with_reducible repeat (first | apply Kd.R_alloc | apply Kd.R_drewN | apply Kd.R_drew)); exact HO_4.out⟩, ⟨by (try simp only [hl4_2]); (try simp only [hl4_3]); (try simp only [hl10_3]); (with_reducible repeat (first | apply Kd.R_alloc | apply Kd.R_drewN | apply Kd.R_drew)); exact HO_10.out⟩, ⟨by (try simp only [hl4_2]); (try simp only [hl4_3]); (try simp only [hl10_3]); (with_reducible repeat (first | apply Kd.R_alloc | apply Kd.R_drewN | apply Kd.R_drew)); exact HO_11.out⟩, ⟨bq HB.out⟩⟩
            ·replace c88 := Bool.eq_false_iff.mpr c88
             subst c88
             rw [if_neg (show ¬ (false = true) by decide)] at H
             obtain ⟨c94b0, H⟩ := od_ H
             obtain ⟨c95b0, H⟩ := od_ H
             obtain ⟨y583, hy583⟩ : ∃ y_ : List Int, y_ = (x4_3.set (x13_2 : Int).toNat ((x14_3) % 4294967296)) := ⟨_, rfl⟩
             replace H : (nat_Divide.l0 k3 y583 t559 x10_3 y566 (y566.length : Int) (wrap64 (x13_2 - 1))) = some (r1, r2, r3) := by first | (rw [hy583]; with_reducible exact H) | (have H2_ := (Option.bind_some _ _).symm.trans H; rw [hy583]; with_reducible exact H2_) | (have H2_ := (Option.bind_some _ _).symm.trans H; with_reducible exact H2_) | with_reducible exact H | (rw [hy583]; exact H) | exact H
             have Ny583 := md_ hy583
             clear hy583
             have H' := md_ H
             clear H
             have p96 : 0 ≤ (x13_2 : Int) := oq
             have q96 : (x13_2 : Int) < ((x4_3.length : Int) : Int) := oq
             obtain ⟨go96, co96, eo96, gb96, gl96, cl96, HG96⟩ := Kd.R_form HO_4.out (by omega)
             (first | cases eo96 | (injection eo96 with ea_ en_ ec_; (first | subst ea_ | (injection ea_ with ea_; subst ea_)); subst ec_; clear en_))
             have GB96 := md_ gb96
             have GG96 := md_ HG96
             clear gb96 gl96 HG96
             obtain ⟨hx96_0, hf96_0⟩ := Kd.R_celln 0 HO_4.out (x13_2 : Int) p96 q96
             (try simp only [Int.toNat_natCast] at hx96_0)
             (try simp only [Int.toNat_natCast] at hf96_0)
             replace p96 := eq_true p96
             replace q96 := eq_true q96
             have HP97 := Kd.R_putg HO_4.out (x13_2 : Int) ((x14_3) % 4294967296)
             go_wp2_with (first | ((with_reducible refine gate_store (t := 119) (p := 150) rfl ?_); refine store_event (t := 119) (p := 150) (v := ?vo_w98) (w1 := (wr.setCell ⟨go96, (x13_2 : Int).toNat, none⟩ (.int .u32 ((x14_3) % 4294967296)))) ?hg ?ho ?hn ?hr ?_; (case ho => rfl); (case hg => rfl); (case hn => rfl); (case hr => first | (go_simp; done) | (go_simp; rfl) | (obtain ⟨hx_, hf_⟩ := Kd.R_celln 0 HO_4.out (x13_2 : Int) oq oq; (try simp only [Int.toNat_natCast] at hx_); (try simp only [Int.toNat_natCast] at hf_); first | (go_simp; done) | (go_simp; rfl))); intro w98 hw; have hg : wr.grownBy w98 (some go96) := (by rw [hw]; exact HP97.2); have hp_ : Kd.R (Kd.int .u32) 119 w98 w.heap.size (fun k_ => (w.heap.size ≤ k_) ∧ some k_ ≠ (.slice (some ad573) x10_3.length co86 : Value).ownBlock) (.slice (some ⟨go96, 0, none⟩) x4_3.length co66) y583 := (by rw [hw, Ny583.out]; exact HP97.1); clear HP97; have n0_ := md_ (hp_); have n1_ := md_ (Kd.R_after (v := (.slice (some ⟨go96, 0, none⟩) x4_3.length co66)) (v1 := (.slice (some ⟨go96, 0, none⟩) x4_3.length co66)) (ok := (fun k_ => (w.heap.size ≤ k_))) (rq HO_10.out) hg (.inl rfl)); have n3_ := md_ (Kd.R_after (v := (.slice (some ⟨go96, 0, none⟩) x4_3.length co66)) (v1 := (.slice (some ⟨go96, 0, none⟩) x4_3.length co66)) (ok := (fun k_ => (w.heap.size ≤ k_) ∧ some k_ ≠ (.slice (some ad573) x10_3.length co86 : Value).ownBlock)) (rq HO_11.out) hg (.inl rfl)); clear HO_11; have HO_11 := n3_; clear n3_; have n2_ := md_ ((by rw [hw]; exact below_set (HB.out) GB96.out : Below w.heap.size w w98)); clear HO_4; clear HO_10; clear HB; have HO_4 := n0_; have HO_10 := n1_; have HB := n2_; clear n0_ n1_ n2_; clear hg hw hp_))
             (try simp only [← hl4_2, ← hl4_3, ← hl10_3])
             (try subst hji77)
             (try subst hji80)
             go_roundg k3
             case measure => have := HJ2.out; have := HK2.out; have := HK3.out; omega
             case rel => exact ⟨(y583), (x10_3), (wrap64 (x13_2 - 1)), aq, H', ⟨by have := HJ2.out; have := HK2.out; have := HK3.out; omega⟩, ⟨by (try simp only [hl4_2]); (try simp only [hl4_3]); (try simp only [hl10_3]); (with_reducible repeat (first | apply Kd.R_alloc | apply Kd.R_drewN | apply Kd.R_drew)); exact HO_4.out⟩, ⟨by (try simp only [hl4_2]); (try simp only [hl4_3]); (try simp only [hl10_3]); (with_reducible repeat (first | apply Kd.R_alloc | apply Kd.R_drewN | apply Kd.R_drew)); exact HO_10.out⟩, ⟨by (try simp only [hl4_2]); (try simp only [hl4_3]); (try simp only [hl10_3]); (with_reducible repeat (first | apply Kd.R_alloc | apply Kd.R_drewN | apply Kd.R_drew)); exact HO_11.out⟩, ⟨bq HB.out⟩⟩
         ·rw [if_neg c67] at H
          have c67b0 : decide (0 ≤ x13_2) = false := decide_eq_false c67
          clear c67
          obtain ⟨c99, H⟩ := oi_ H
          have c99b0 := eq_true c99
          have c99b1 : decide (0 ≤ (y566.length : Int)) = true := decide_eq_true c99
          clear c99
          obtain ⟨c100, H⟩ := oi_ H
          have c100b0 := eq_true c100
          have c100b1 : decide (((y566.length : Int) : Int).toNat ≤ 70368744177664) = true := decide_eq_true c100
          clear c100
          obtain ⟨y584, hy584⟩ : ∃ y_ : List Int, y_ = (List.replicate ((y566.length : Int) : Int).toNat 0) := ⟨_, rfl⟩
          replace H : (nat_Divide.l2 k2 x4_2 y584 t559 x10_2 (y584.length : Int) 0) = some (r1, r2, r3) := by first | (rw [hy584]; with_reducible exact H) | (have H2_ := (Option.bind_some _ _).symm.trans H; rw [hy584]; with_reducible exact H2_) | (have H2_ := (Option.bind_some _ _).symm.trans H; with_reducible exact H2_) | with_reducible exact H | (rw [hy584]; exact H) | exact H
          have Ny584 := md_ hy584
          clear hy584
          have H' := md_ H
          clear H
          go_wp2_with (first | ((with_reducible refine gate_dst (N := 152) rfl ?_); refine Kd.R_make (Kd.int .u32) _ 119 rfl (N := 152) rfl 96 _ _ rfl (y566.length : Int) rfl rfl Tryz.underlying96 (.int .u32 0) 4 info119 rfl (by decide) (by omega) 0 (ok := fun _ => True) (okp := fun _ => True) rfl (fun _ hk => hk) trivial oq (Nat.le_trans (Nat.mul_le_mul_right _ (oq : (y566.length : Int).toNat ≤ 70368744177664)) (by omega)) (Below.refl _ _) (Nat.le_refl _) ?_; intro v585 w101 ho102 hb hg_ hnew_; clear hg_ hnew_; (first | rw [← Ny584.out] at ho102 | (simp only [Int.reduceToNat] at ho102; rw [← Ny584.out] at ho102)); have n0_ := md_ (Kd.R_elder' (rq HO_4.out) (Kd.R_base ho102) hb); have n1_ := md_ (Kd.R_elder' (rq HO_10.out) (Kd.R_base ho102) hb); have n2_ := md_ (Kd.R_lower (Kd.R_new' (Kd.R_new' (Kd.R_newM (M := fun k_ => (w.heap.size ≤ k_)) ho102 (below_size (bq HB.out)) (fun k_ h_ => h_)) (Kd.R_lt (rq HO_4.out))) (Kd.R_lt (rq HO_10.out))) (below_size (bq HB.out))); have n3_ := md_ (below_step (bq HB.out) hb); clear HO_4; clear HO_10; clear HB; have HO_4 := n0_; have HO_10 := n1_; have HO586 := n2_; have HB := n3_; clear n0_ n1_ n2_ n3_; clear hb ho102; obtain ⟨Ao103, co103, eo103⟩ := Kd.R_slice HO586.out; subst eo103))
          go_loopg [155] k2 (fun kq v155 w' => ∃ (x5_3 : List Int) (x155_3 : Int), v155 = .int .i64 x155_3 ∧ Aside0 (nat_Divide.l2 kq x4_2 x5_3 t559 x10_2 (y584.length : Int) x155_3 = some (r1, r2, r3)) ∧ Aside0 (kq ≤ k2) ∧ Aside0 (Kd.R (Kd.int .u32) 119 w' w.heap.size (fun k_ => (w.heap.size ≤ k_) ∧ some k_ ≠ ((.slice Ao103 y584.length co103) : Value).ownBlock ∧ some k_ ≠ (v561 : Value).ownBlock) (.slice Ao66 x4_2.length co66) x4_2) ∧ Aside0 (Kd.R (Kd.int .u32) 119 w' w.heap.size (fun k_ => (w.heap.size ≤ k_) ∧ some k_ ≠ ((.slice Ao66 x4_2.length co66) : Value).ownBlock ∧ some k_ ≠ (v561 : Value).ownBlock) (.slice Ao103 y584.length co103) x5_3) ∧ Aside0 (Kd.R (Kd.int .u32) 119 w' w.heap.size (fun k_ => (w.heap.size ≤ k_) ∧ some k_ ≠ ((.slice Ao66 x4_2.length co66) : Value).ownBlock ∧ some k_ ≠ ((.slice Ao103 y584.length co103) : Value).ownBlock) v561 x10_2) ∧ Aside0 (Below w.heap.size w w'))
          case atStart => exact ⟨(y584), (0), aq, H', ⟨Nat.le_refl _⟩, ⟨by (try simp only [hl4_2]); (with_reducible repeat (first | apply Kd.R_alloc | apply Kd.R_drewN | apply Kd.R_drew)); exact Kd.R_mono HO_4.out (fun _ hk => ⟨hk.1.1, ⟨hk.2, hk.1.2⟩⟩)⟩, ⟨by (try simp only [hl4_2]); (with_reducible repeat (first | apply Kd.R_alloc | apply Kd.R_drewN | apply Kd.R_drew)); exact Kd.R_mono HO586.out (fun _ hk => ⟨hk.1.1.1, ⟨hk.1.2, hk.2⟩⟩)⟩, ⟨by (try simp only [hl4_2]); (with_reducible repeat (first | apply Kd.R_alloc | apply Kd.R_drewN | apply Kd.R_drew)); exact Kd.R_mono HO_10.out (fun _ hk => ⟨hk.1.1, ⟨hk.1.2, hk.2⟩⟩)⟩, ⟨bq HB.out⟩⟩
          case round =>
           clear H'
           (try clear c1); (try clear c2); (try clear p2); (try clear c3); (try clear c4); (try clear c5); (try clear p5); (try clear q5); (try clear hx5); (try clear qi5); (try clear c6); (try clear p6); (try clear q6); (try clear c7); (try clear c8); (try clear c9); (try clear p9); (try clear q9); (try clear hx9); (try clear hf9); (try clear c10); (try clear c13); (try clear c13b0); (try clear c13b1); (try clear c13b2); (try clear c18); (try clear c18b0); (try clear c26); (try clear c26b0); (try clear c26b1); (try clear c27); (try clear c27b0); (try clear c27b1); (try clear c31); (try clear c35); (try clear c42); (try clear c44); (try clear c44b0); (try clear c45); (try clear c45b0); (try clear c47); (try clear c49); (try clear c49b0); (try clear c49b1); (try clear c50); (try clear c50b0); (try clear c50b1); (try clear c51); (try clear c52); (try clear c52b0); (try clear c52b1); (try clear c53); (try clear c53b0); (try clear c53b1); (try clear p54); (try clear q54); (try clear hx54); (try clear qi54); (try clear p55); (try clear q55); (try clear hx55); (try clear p57); (try clear q57); (try clear hx57); (try clear p58); (try clear q58); (try clear hx58); (try clear q62); (try clear p64); (try clear c67); (try clear c67b0); (try clear c69); (try clear c69b0); (try clear c70); (try clear c70b0); (try clear c72); (try clear c72b0); (try clear c73); (try clear c73b0); (try clear c75); (try clear c75b0); (try clear c76); (try clear c76b0); (try clear c78); (try clear c78b0); (try clear c79); (try clear c79b0); (try clear c81); (try clear c81b0); (try clear c82); (try clear c82b0); (try clear c88); (try clear c91); (try clear c91b0); (try clear c92); (try clear c92b0); (try clear c94); (try clear c94b0); (try clear c95); (try clear c95b0); (try clear p96); (try clear q96); (try clear hx96); (try clear hf96); (try clear c99); (try clear c99b0); (try clear c99b1); (try clear c100); (try clear c100b0); (try clear c100b1); (try clear hx544_0); (try clear hx558_0); (try clear hx573_0); (try clear hx574_0); (try clear hx575_0); (try clear hx576_0); (try clear hx577_0); (try clear hx582_0); (try clear hx96_0); (try clear p2); (try clear p5); (try clear p54); (try clear p544); (try clear p55); (try clear p558); (try clear p57); (try clear p573); (try clear p574); (try clear p575); (try clear p576); (try clear p577); (try clear p582); (try clear p6); (try clear p64); (try clear p96); (try clear q5); (try clear q54); (try clear q544); (try clear q55); (try clear q558); (try clear q57); (try clear q573); (try clear q574); (try clear q575); (try clear q576); (try clear q577); (try clear q582); (try clear q6); (try clear q62); (try clear q96)
           obtain ⟨x5_3, x155_3, rfl, HA, HK3, HO_4, HO_5, HO_10, HB⟩ := hrel
           have hl5_3 := (Kd.R_reads' HO_5.out).1
           rw [hl5_3] at HO_5
           (try simp only [hl5_3])
           (try simp only [hl5_3] at HO_4)
           (try simp only [hl5_3] at HO_10)
           cases gk with
           | zero => exact absurd HA.out (by simp [nat_Divide.l2])
           | succ k3 =>
            have H := HA.out
            clear HA
            simp only [nat_Divide.l2] at H
            by_cases c104 : x155_3 < (y584.length : Int)
            ·rw [if_pos c104] at H
             have c104b0 := decide_eq_true c104
             clear c104
             obtain ⟨ji105, hji105⟩ : ∃ j_ : Int, (wrap64 (x155_3 + 1)) = j_ := ⟨_, rfl⟩
             first | rw [hji105] at H | simp only [hji105] at H
             have hji105w : (IntKind.i64.wrap (x155_3 + 1)) = ji105 := (i64_w _).trans hji105
             obtain ⟨c106b0, H⟩ := od_ H
             obtain ⟨c107b0, H⟩ := od_ H
             obtain ⟨c108b0, H⟩ := od_ H
             obtain ⟨c109b0, H⟩ := od_ H
             obtain ⟨c110, H⟩ := oi_ H
             have c110b0 := eq_true c110
             have c110b1 : decide (0 ≤ t559) = true := decide_eq_true c110
             clear c110
             obtain ⟨ji111, hji111⟩ : ∃ j_ : Int, (shr .u64 (Go.bits .or .u64 (IntKind.u64.wrap ((IntKind.u64.wrap (rd x10_2 (ji105))) * 4294967296)) (IntKind.u64.wrap (rd x10_2 x155_3))) t559) = j_ := ⟨_, rfl⟩
             first | rw [hji111] at H | simp only [hji111] at H
             have hji111_ : ((Go.bits .or .u64 (IntKind.u64.wrap ((IntKind.u64.wrap (rd x10_2 (ji105))) * 4294967296)) (IntKind.u64.wrap (rd x10_2 x155_3))) / 2 ^ min t559.toNat 64) = ji111 := hji111
             have hji111z : t559 ≤ 64 → ((Go.bits .or .u64 (IntKind.u64.wrap ((IntKind.u64.wrap (rd x10_2 (ji105))) * 4294967296)) (IntKind.u64.wrap (rd x10_2 x155_3))) / 2 ^ t559.toNat) = ji111 := shr_small hji111
             obtain ⟨c112b0, H⟩ := od_ H
             obtain ⟨y589, hy589⟩ : ∃ y_ : List Int, y_ = (x5_3.set (x155_3 : Int).toNat ((ji111) % 4294967296)) := ⟨_, rfl⟩
             replace H : (nat_Divide.l2 k3 x4_2 y589 t559 x10_2 (y584.length : Int) ji105) = some (r1, r2, r3) := by first | (rw [hy589]; with_reducible exact H) | (have H2_ := (Option.bind_some _ _).symm.trans H; rw [hy589]; with_reducible exact H2_) | (have H2_ := (Option.bind_some _ _).symm.trans H; with_reducible exact H2_) | with_reducible exact H | (rw [hy589]; exact H) | exact H
             have Ny589 := md_ hy589
             clear hy589
             have H' := md_ H
             clear H
             try go_wp2
             replace HO_4 := md_ (Kd.R_drew HO_4.out)
             replace HO_5 := md_ (Kd.R_drew HO_5.out)
             replace HO_10 := md_ (Kd.R_drew HO_10.out)
             replace HB := md_ (below_drew1 HB.out)
             obtain ⟨Ao115, co115, eo115⟩ := Kd.R_slice HO_10.out
             (first | subst eo115 | (injection eo115 with f1_ f2_ f3_; have f4_ := f1_.symm; have f5_ := f3_.symm; clear f1_ f2_ f3_; subst f4_; subst f5_))
             have p587 : 0 ≤ ((ji105) : Int) := oq
             have q587 : (ji105) < (x10_2.length : Int) := oq
             obtain ⟨ad587, e587, hx587_0⟩ := Kd.at_int (Kd.R_reads' HO_10.out).2.2 (ji105) p587 q587
             cases e587
             replace p587 := eq_true p587
             replace q587 := eq_true q587
             have p588 : 0 ≤ (x155_3 : Int) := oq
             have q588 : x155_3 < (x10_2.length : Int) := oq
             obtain ⟨ad588, e588, hx588_0⟩ := Kd.at_int (Kd.R_reads' HO_10.out).2.2 x155_3 p588 q588
             obtain rfl : ad587 = ad588 := (by injection e588)
             replace p588 := eq_true p588
             replace q588 := eq_true q588
             have p113 : 0 ≤ (x155_3 : Int) := oq
             have q113 : (x155_3 : Int) < ((x5_3.length : Int) : Int) := oq
             obtain ⟨go113, co113, eo113, gb113, gl113, cl113, HG113⟩ := Kd.R_form HO_5.out (by omega)
             (first | cases eo113 | (injection eo113 with ea_ en_ ec_; (first | subst ea_ | (injection ea_ with ea_; subst ea_)); subst ec_; clear en_))
             have GB113 := md_ gb113
             have GG113 := md_ HG113
             clear gb113 gl113 HG113
             obtain ⟨hx113_0, hf113_0⟩ := Kd.R_celln 0 HO_5.out (x155_3 : Int) p113 q113
             (try simp only [Int.toNat_natCast] at hx113_0)
             (try simp only [Int.toNat_natCast] at hf113_0)
             replace p113 := eq_true p113
             replace q113 := eq_true q113
             have HP116 := Kd.R_putn HO_5.out (x155_3 : Int) ((ji111) % 4294967296)
             rw [← Ny589.out] at HP116
             have HQ116 := md_ HP116
             clear HP116
             refine start_ (n := 20) (S := fun w' => w'.cell? (ad587.add ((ji105)).toNat) = some (.int .u32 (rd x10_2 (ji105))) ∧ w'.cell? (ad587.add (x155_3).toNat) = some (.int .u32 (rd x10_2 x155_3))) (ds := [19]) #[false, false, false, false, false, false, false, false, false, false, false, false, false, false, false, false, false, false, false, false] (by kernel_rfl) rfl rfl ⟨hx587_0, hx588_0⟩ (fun hHeld => ?_); refine with_tabW nat_Divide.tab29 nat_Divide.bits29 (fun HT_ HW_ => ?_)
             generalize wr.drew = w114 at HO_4 HO_5 HO_10 HB GG113 HQ116 hf113_0 hx113_0 hx587_0 hx588_0 hHeld ⊢
             refine pq_ 0 (some 158) HT_ ?_
             refine pq_ 1 (some 159) HT_ ?_
             refine pq_ 2 (some 160) HT_ ?_
             refine pq_ 3 (some 161) HT_ ?_
             refine pq_ 4 (some 162) HT_ ?_
             refine pq_ 5 (some 163) HT_ ?_
             refine pq_ 9 (some 167) HT_ ?_
             refine pq_ 10 (some 168) HT_ ?_
             refine pq_ 11 (some 169) HT_ ?_
             refine pq_ 15 (some 173) HT_ ?_
             refine take_ (i := 6) (N := some 164) (v := ?_) (a' := ?_) #[true, true, true, true, true, true, true, false, false, true, true, true, false, false, false, true, false, false, false, false] rfl rfl (take_ofW HT_.out HW_.out (by kernel_rfl)) (fun _ _ _ h => h) (Or.inl ⟨by rfl, ?_⟩) hHeld ?_ ?_
             rotate_left
             ·rintro w' ⟨s0, s1⟩
              go_simp
              with_reducible rfl
             rotate_left
             ·simp only [Act.put, List.setIfInBounds_toArray, List.set_cons_zero, List.set_cons_succ, i64_w, i32_w]
              rfl
             refine pq_ 7 (some 165) HT_ ?_
             refine pq_ 8 (some 166) HT_ ?_
             refine take_ (i := 12) (N := some 170) (v := ?_) (a' := ?_) #[true, true, true, true, true, true, true, true, true, true, true, true, true, false, false, true, false, false, false, false] rfl rfl (take_ofW HT_.out HW_.out (by kernel_rfl)) (fun _ _ _ h => h) (Or.inl ⟨by rfl, ?_⟩) hHeld ?_ ?_
             rotate_left
             ·rintro w' ⟨s0, s1⟩
              go_simp
              with_reducible rfl
             rotate_left
             ·simp only [Act.put, List.setIfInBounds_toArray, List.set_cons_zero, List.set_cons_succ, i64_w, i32_w]
              rfl
             refine pq_ 13 (some 171) HT_ ?_
             refine pq_ 14 (some 172) HT_ ?_
             refine pq_ 16 (some 174) HT_ ?_
             refine pq_ 17 (some 175) HT_ ?_
             refine pq_ 18 (some 176) HT_ ?_
             refine last_ (i := 19) (N := none) #[true, true, true, true, true, true, true, true, true, true, true, true, true, true, true, true, true, true, true, true] rfl rfl (one_of HT_.out (by kernel_rfl)) (by decide) (fun K hK => ?_)
             refine skip_ (w1 := ?_) (by rfl) rfl ?_ ?_
             rotate_left
             ·go_simp
              rfl
             refine hK.out _ _ ?_
             clear hK K
             refine done_ (done_of HT_.out (by kernel_rfl)) ?_
             try go_wp2
             (try simp only [← hl5_3])
             go_roundg k3
             case measure => have := HJ2.out; have := HK2.out; have := HK3.out; omega
             case rel => exact ⟨(y589), (ji105), (by first | rfl | (simp; done) | (simp only [← hji105] <;> (first | rfl | simp)) | (simp [*]; done)), H', ⟨by have := HJ2.out; have := HK2.out; have := HK3.out; omega⟩, ⟨by (try simp only [hl4_2]); (try simp only [hl5_3]); (with_reducible repeat (first | apply Kd.R_alloc | apply Kd.R_drewN | apply Kd.R_drew)); exact Kd.R_mono (Kd.R_far (p := ⟨go113, (x155_3 : Int).toNat, none⟩) (Kd.R_mono HO_4.out (fun k_ hk => (⟨hk, fun e_ => hk.2.1 (by rw [e_]; rfl)⟩ : _ ∧ k_ ≠ go113))) (fun _ hk => hk.2) (.int .u32 ((ji111) % 4294967296))) (fun _ hk => ⟨hk.1.1, ⟨hk.1.2.1, hk.1.2.2⟩⟩)⟩, ⟨by (try simp only [hl4_2]); (try simp only [hl5_3]); (with_reducible repeat (first | apply Kd.R_alloc | apply Kd.R_drewN | apply Kd.R_drew)); exact HQ116.out⟩, ⟨by (try simp only [hl4_2]); (try simp only [hl5_3]); (with_reducible repeat (first | apply Kd.R_alloc | apply Kd.R_drewN | apply Kd.R_drew)); exact Kd.R_mono (Kd.R_far (p := ⟨go113, (x155_3 : Int).toNat, none⟩) (Kd.R_mono HO_10.out (fun k_ hk => (⟨hk, fun e_ => hk.2.2 (by rw [e_]; rfl)⟩ : _ ∧ k_ ≠ go113))) (fun _ hk => hk.2) (.int .u32 ((ji111) % 4294967296))) (fun _ hk => ⟨hk.1.1, ⟨hk.1.2.1, hk.1.2.2⟩⟩)⟩, ⟨by repeat (first | (with_reducible first | exact HB.out | apply below_alloc | apply pw_below_drewN | apply below_drew1 | refine below_set ?_ GB113.out) | exact HB.out)⟩⟩
            ·rw [if_neg c104] at H
             have c104b0 := decide_eq_false c104
             (try simp only [hl5_3] at c104b0)
             clear c104
             replace H := Option.bind_eq_some_iff.mp H
             obtain ⟨t590, A1170, H⟩ := H
             have A117 := md_ A1170
             clear A1170
             replace H := Option.bind_eq_some_iff.mp H
             obtain ⟨t593, A1180, H⟩ := H
             have A118 := md_ A1180
             clear A1180
             simp only [Option.some.injEq, Prod.mk.injEq] at H
             obtain ⟨rfl, rfl, rfl⟩ := H
             go_wp2_with (first | ((with_reducible refine gate_callee (f := 86) rfl ?_); refine goesL_ (some 179) rfl rfl Tryz.func86 (by kernel_rfl) rfl #[.slice Ao66 x4_2.length co66] rfl gq ?_; (with_reducible refine (nat_trim.calls k3 (fun k_ => some k_ = (.slice Ao66 x4_2.length co66 : Value).ownBlock) _ _ x4_2 t590 _ ?side1 A117.out).mono ?_); (case side1 => exact Kd.R_V (Kd.R_tight rfl (HO_4.out))); rintro e w119 ⟨v591, rfl, ho0, hb⟩; refine ⟨_, rfl, ?_⟩; have n0_ := md_ (Kd.R_below (rq HO_4.out) hb); have n1_ := md_ (Kd.R_below (rq HO_5.out) hb); have n2_ := md_ (Kd.R_below (rq HO_10.out) hb); have n3_ := md_ (Kd.V_lower (Kd.V_mono (ok' := fun k_ => ((P0_ k_ ∨ P1_ k_) ∨ w.heap.size ≤ k_) ∧ some k_ ≠ (.slice Ao103 x5_3.length co103 : Value).ownBlock ∧ some k_ ≠ (v561 : Value).ownBlock) ho0 (fun k_ hk_ => ⟨Or.elim hk_ (fun hs_ => (.inr (((HO_4.out).1 k_ hs_.symm).1))) (fun hn_ => (.inr (Nat.le_trans (below_size (bq HB.out)) hn_))), Or.elim hk_ (fun hs_ => ((HO_4.out).1 k_ hs_.symm).2.1) (fun hn_ => (Kd.fresh' (Kd.R_lt (rq HO_5.out)) k_ hn_)), Or.elim hk_ (fun hs_ => ((HO_4.out).1 k_ hs_.symm).2.2) (fun hn_ => (Kd.fresh' (Kd.R_lt (rq HO_10.out)) k_ hn_))⟩)) (below_size (bq HB.out))); have n4_ := md_ (below_step (bq HB.out) hb); clear HO_4; clear HO_5; clear HO_10; clear HB; have HO_4 := n0_; have HO_5 := n1_; have HO_10 := n2_; have HO592 := n3_; have HB := n4_; clear n0_ n1_ n2_ n3_ n4_; (try clear hb); (try clear ho0)) | (go_at_call 86; (with_reducible refine (nat_trim.calls k3 (fun k_ => some k_ = (.slice Ao66 x4_2.length co66 : Value).ownBlock) _ _ x4_2 t590 _ ?side1 A117.out).mono ?_); (case side1 => exact Kd.R_V (Kd.R_tight rfl (HO_4.out))); rintro e w119 ⟨v591, rfl, ho0, hb⟩; have n0_ := md_ (Kd.R_below (rq HO_4.out) hb); have n1_ := md_ (Kd.R_below (rq HO_5.out) hb); have n2_ := md_ (Kd.R_below (rq HO_10.out) hb); have n3_ := md_ (Kd.V_lower (Kd.V_mono (ok' := fun k_ => ((P0_ k_ ∨ P1_ k_) ∨ w.heap.size ≤ k_) ∧ some k_ ≠ (.slice Ao103 x5_3.length co103 : Value).ownBlock ∧ some k_ ≠ (v561 : Value).ownBlock) ho0 (fun k_ hk_ => ⟨Or.elim hk_ (fun hs_ => (.inr (((HO_4.out).1 k_ hs_.symm).1))) (fun hn_ => (.inr (Nat.le_trans (below_size (bq HB.out)) hn_))), Or.elim hk_ (fun hs_ => ((HO_4.out).1 k_ hs_.symm).2.1) (fun hn_ => (Kd.fresh' (Kd.R_lt (rq HO_5.out)) k_ hn_)), Or.elim hk_ (fun hs_ => ((HO_4.out).1 k_ hs_.symm).2.2) (fun hn_ => (Kd.fresh' (Kd.R_lt (rq HO_10.out)) k_ hn_))⟩)) (below_size (bq HB.out))); have n4_ := md_ (below_step (bq HB.out) hb); clear HO_4; clear HO_5; clear HO_10; clear HB; have HO_4 := n0_; have HO_5 := n1_; have HO_10 := n2_; have HO592 := n3_; have HB := n4_; clear n0_ n1_ n2_ n3_ n4_; (try clear hb); (try clear ho0)) | ((with_reducible refine gate_callee (f := 86) rfl ?_); refine goesL_ (some 181) rfl rfl Tryz.func86 (by kernel_rfl) rfl #[.slice Ao103 x5_3.length co103] rfl gq ?_; (with_reducible refine (nat_trim.calls k3 (fun k_ => some k_ = (.slice Ao103 x5_3.length co103 : Value).ownBlock) _ _ x5_3 t593 _ ?side1 A118.out).mono ?_); (case side1 => exact Kd.R_V (Kd.R_tight rfl (HO_5.out))); rintro e w120 ⟨v594, rfl, ho0, hb⟩; refine ⟨_, rfl, ?_⟩; have n0_ := md_ (Kd.R_below (rq HO_4.out) hb); have n1_ := md_ (Kd.R_below (rq HO_5.out) hb); have n2_ := md_ (Kd.R_below (rq HO_10.out) hb); have n3_ := md_ (Kd.V_below (vq HO592.out) hb); have n4_ := md_ (Kd.V_lower (Kd.V_mono (ok' := fun k_ => ((P0_ k_ ∨ P1_ k_) ∨ w.heap.size ≤ k_) ∧ some k_ ≠ (.slice Ao66 x4_2.length co66 : Value).ownBlock ∧ some k_ ≠ (v561 : Value).ownBlock) ho0 (fun k_ hk_ => ⟨Or.elim hk_ (fun hs_ => (.inr (((HO_5.out).1 k_ hs_.symm).1))) (fun hn_ => (.inr (Nat.le_trans (below_size (bq HB.out)) hn_))), Or.elim hk_ (fun hs_ => ((HO_5.out).1 k_ hs_.symm).2.1) (fun hn_ => (Kd.fresh' (Kd.R_lt (rq HO_4.out)) k_ hn_)), Or.elim hk_ (fun hs_ => ((HO_5.out).1 k_ hs_.symm).2.2) (fun hn_ => (Kd.fresh' (Kd.R_lt (rq HO_10.out)) k_ hn_))⟩)) (below_size (bq HB.out))); have n5_ := md_ (below_step (bq HB.out) hb); clear HO_4; clear HO_5; clear HO_10; clear HO592; clear HB; have HO_4 := n0_; have HO_5 := n1_; have HO_10 := n2_; have HO592 := n3_; have HO595 := n4_; have HB := n5_; clear n0_ n1_ n2_ n3_ n4_ n5_; (try clear hb); (try clear ho0)) | (go_at_call 86; (with_reducible refine (nat_trim.calls k3 (fun k_ => some k_ = (.slice Ao103 x5_3.length co103 : Value).ownBlock) _ _ x5_3 t593 _ ?side1 A118.out).mono ?_); (case side1 => exact Kd.R_V (Kd.R_tight rfl (HO_5.out))); rintro e w120 ⟨v594, rfl, ho0, hb⟩; have n0_ := md_ (Kd.R_below (rq HO_4.out) hb); have n1_ := md_ (Kd.R_below (rq HO_5.out) hb); have n2_ := md_ (Kd.R_below (rq HO_10.out) hb); have n3_ := md_ (Kd.V_below (vq HO592.out) hb); have n4_ := md_ (Kd.V_lower (Kd.V_mono (ok' := fun k_ => ((P0_ k_ ∨ P1_ k_) ∨ w.heap.size ≤ k_) ∧ some k_ ≠ (.slice Ao66 x4_2.length co66 : Value).ownBlock ∧ some k_ ≠ (v561 : Value).ownBlock) ho0 (fun k_ hk_ => ⟨Or.elim hk_ (fun hs_ => (.inr (((HO_5.out).1 k_ hs_.symm).1))) (fun hn_ => (.inr (Nat.le_trans (below_size (bq HB.out)) hn_))), Or.elim hk_ (fun hs_ => ((HO_5.out).1 k_ hs_.symm).2.1) (fun hn_ => (Kd.fresh' (Kd.R_lt (rq HO_4.out)) k_ hn_)), Or.elim hk_ (fun hs_ => ((HO_5.out).1 k_ hs_.symm).2.2) (fun hn_ => (Kd.fresh' (Kd.R_lt (rq HO_10.out)) k_ hn_))⟩)) (below_size (bq HB.out))); have n5_ := md_ (below_step (bq HB.out) hb); clear HO_4; clear HO_5; clear HO_10; clear HO592; clear HB; have HO_4 := n0_; have HO_5 := n1_; have HO_10 := n2_; have HO592 := n3_; have HO595 := n4_; have HB := n5_; clear n0_ n1_ n2_ n3_ n4_ n5_; (try clear hb); (try clear ho0)))
             go_ret3
             exact ⟨_, _, by first | rfl | (simp [errW_none, errW_some] <;> rfl) | (simp only [← hji43, ← hji51]; first | rfl | (simp [errW_none, errW_some] <;> rfl)) | (simp [*, errW_none, errW_some] <;> rfl), by (with_reducible repeat (first | apply Kd.V_alloc | apply Kd.V_drewN | apply Kd.V_drew)); exact Kd.V_mono HO592.out (fun _ hk => hk.1), by (with_reducible repeat (first | apply Kd.V_alloc | apply Kd.V_drewN | apply Kd.V_drew)); exact Kd.V_mono HO595.out (fun _ hk => hk.1), bq HB.out⟩
end Go.Proofs.YtneepokiioefgaaGreatDoor.PNat
set_option maxHeartbeats 32000000
namespace Go.Proofs.YtneepokiioefgaaGreatDoor.PNat
open Go.RowKit YtneepokiioefgaaGreatDoorW.PrintWords YtneepokiioefgaaGreatDoorW.PrintLast YtneepokiioefgaaGreatDoorW.PrintMore
attribute [local go_sem] max2_int min2_int max_two min_two max_three min_three max_four min_four
end Go.Proofs.YtneepokiioefgaaGreatDoor.PNat
namespace Go.Proofs.YtneepokiioefgaaGreatDoor.PNatO
theorem info119 : (Tryz.prog.info? 119).map (fun i => (i.zero, i.size, i.bytes)) = some (some (.int .u32 0), 1, 4) := Go.Proofs.YtneepokiioefgaaGreatDoor.PNat.info119
theorem info5 : (Tryz.prog.info? 5).map (fun i => (i.zero, i.size, i.bytes)) = some (some (.int .u8 0), 1, 1) := Go.Proofs.YtneepokiioefgaaGreatDoor.PNat.info5
open Go.RowKit YtneepokiioefgaaGreatDoorW.PrintWords YtneepokiioefgaaGreatDoorW.PrintLast YtneepokiioefgaaGreatDoorW.PrintMore
attribute [local go_sem] max2_int min2_int max_two min_two max_three min_three max_four min_four   -- for this text's walks alone
def errW : Option Int → Value
 | none => .nilIface
 | some c => .iface 0 (.int .i64 c)
theorem errW_none : errW none = .nilIface := rfl
theorem errW_some (c : Int) : errW (some c) = .iface 0 (.int .i64 c) := rfl
end Go.Proofs.YtneepokiioefgaaGreatDoor.PNatO
namespace Go.Proofs.YtneepokiioefgaaGreatDoor.Pure
open Go.RowKit PNat YtneepokiioefgaaGreatDoorW.PrintWords YtneepokiioefgaaGreatDoorW.PrintLast YtneepokiioefgaaGreatDoorW.PrintMore
theorem i64_id {x : Int} (h0 : -9223372036854775808 ≤ x) (h1 : x ≤ 9223372036854775807) : wrap64 x = x := by unfold wrap64; omega
theorem u64_id {x : Int} (h0 : 0 ≤ x) (h1 : x < 18446744073709551616) : IntKind.u64.wrap x = x := by
 simp only [IntKind.wrap, IntKind.bits, IntKind.signed]
 simp
 omega
theorem ev_trim (l : List Int) (hl : l.length ≤ 1000000000) : Ev (fun k => nat_trim.f k l) (Num.trimW l) := by
 refine ⟨l.length + 1, fun k hk => ?_⟩
 unfold nat_trim.f
 exact trim_pure k l (by omega) (by omega)
theorem ev_large (l : List Int) (hl : l.length ≤ 1000000000) : Ev (fun k => nat_large.f k l) (decide (2000 < (Num.trimW l).length)) := by
 unfold nat_large.f
 refine Ev.bind (ev_trim l hl) ?_
 refine Ev.congr (fun k => ?_) (Ev.now _)
 congr 1
 rw [decide_eq_decide]
 omega
def fitsW (l : List Int) : List Int × Int := if 2000 < (Num.trimW l).length then ([], 2) else (Num.trimW l, 0)
theorem ev_fits (l : List Int) (hl : l.length ≤ 1000000000) : Ev (fun k => nat_fits.f k l) (fitsW l) := by
 unfold nat_fits.f fitsW
 refine Ev.bind (ev_large l hl) ?_
 by_cases h : 2000 < (Num.trimW l).length
 ·simp only [decide_eq_true h, if_true, if_pos h]
  exact Ev.now _
 ·simp only [decide_eq_false h, if_neg h]
  refine Ev.congr (f := fun k => (nat_trim.f k l).bind fun t => some (t, 0)) (fun k => by simp only [Bool.false_eq_true, if_false]) ?_
  exact Ev.bind (ev_trim l hl) (Ev.now _)
theorem fitsW_val {l m : List Int} (hl : Num.okW l) (hm : Num.okW m) (h : Num.valN l = Num.valN m) : fitsW l = fitsW m := by
 unfold fitsW
 rw [Num.trimW_eq_of_val hl hm h]
theorem more_go (b : Int) (hb0 : 0 ≤ b) (hb1 : b < 4294967296) (l : List Int) (hl : Num.okW l) : ∀ c : Int, 0 ≤ c → c < 4294967296 →
  Num.okW (nat_more.go b l c).1 ∧ (nat_more.go b l c).1.length = l.length ∧ 0 ≤ (nat_more.go b l c).2 ∧ (nat_more.go b l c).2 < 4294967296 ∧
   Num.valN (nat_more.go b l c).1 + 4294967296 ^ l.length * (nat_more.go b l c).2.toNat = Num.valN l * b.toNat + c.toNat := by
 induction l with
 | nil => intro c h0 h1; simp [nat_more.go, Num.valN, h0, h1, Num.okW_nil]
 | cons x xs ih =>
  intro c h0 h1
  obtain ⟨⟨hx0, hx1⟩, hxs⟩ := Num.okW_cons.1 hl
  obtain ⟨B, rfl⟩ := Int.eq_ofNat_of_zero_le hb0
  obtain ⟨X, rfl⟩ := Int.eq_ofNat_of_zero_le hx0
  obtain ⟨C, rfl⟩ := Int.eq_ofNat_of_zero_le h0
  have hp : X * B ≤ 4294967295 * 4294967295 := Nat.mul_le_mul (by omega) (by omega)
  have e : IntKind.u64.wrap ((C : Int) + IntKind.u64.wrap (IntKind.u64.wrap (X : Int) * IntKind.u64.wrap (B : Int))) = ((C + X * B : Nat) : Int) := by
   rw [u64_id (x := (X : Int)) (by omega) (by omega), u64_id (x := (B : Int)) (by omega) (by omega), ← Int.natCast_mul, u64_id (x := ((X * B : Nat) : Int)) (by omega) (by omega), ← Int.natCast_add, u64_id (x := ((C + X * B : Nat) : Int)) (by omega) (by omega)]
  obtain ⟨T, hT⟩ : ∃ T, T = C + X * B := ⟨_, rfl⟩
  have hT1 : T < 18446744073709551616 := by omega
  simp only [nat_more.go, e, ← hT]
  have e2 : ((T : Int)) / 4294967296 = ((T / 4294967296 : Nat) : Int) := by omega
  have e3 : ((T : Int)) % 4294967296 = ((T % 4294967296 : Nat) : Int) := by omega
  rw [e2, e3]
  obtain ⟨i1, i2, i3, i4, i5⟩ := ih hxs ((T / 4294967296 : Nat) : Int) (by omega) (by omega)
  refine ⟨Num.okW_cons.2 ⟨by omega, i1⟩, by simp only [List.length_cons, i2], i3, i4, ?_⟩
  simp only [Num.valN, List.length_cons, Int.toNat_natCast] at i5 ⊢
  rw [Nat.pow_succ, Nat.add_mul, Nat.mul_comm (4294967296 ^ xs.length) 4294967296, Nat.mul_assoc, Nat.mul_assoc]
  have h2 : 4294967296 * (Num.valN (nat_more.go (B : Int) xs ((T / 4294967296 : Nat) : Int)).1 + 4294967296 ^ xs.length * (nat_more.go (B : Int) xs ((T / 4294967296 : Nat) : Int)).2.toNat) = 4294967296 * (Num.valN xs * B + T / 4294967296) := by rw [i5]
  rw [Nat.mul_add, Nat.mul_add] at h2
  omega
theorem more_val {b c : Int} (hb0 : 0 ≤ b) (hb1 : b < 4294967296) (hc0 : 0 ≤ c) (hc1 : c < 4294967296) {l : List Int} (hl : Num.okW l) (hlen : l.length ≤ 1000000000) :
  ∃ m, nat_more.f l b c = some m ∧ Num.okW m ∧ Num.valN m = Num.valN l * b.toNat + c.toNat ∧ m.length ≤ l.length + 1 := by
 unfold nat_more.f
 rw [if_pos (by omega), u64_id hc0 (by omega)]
 obtain ⟨i1, i2, i3, i4, i5⟩ := more_go b hb0 hb1 l hl c hc0 hc1
 by_cases h : 0 < (nat_more.go b l c).2
 ·rw [if_pos h]
  refine ⟨_, rfl, Num.okW_append.2 ⟨i1, Num.okW_cons.2 ⟨by omega, Num.okW_nil⟩⟩, ?_, by simp [i2]⟩
  rw [Num.valN_append, i2, Int.emod_eq_of_lt i3 i4]
  simp only [Num.valN]
  omega
 ·rw [if_neg h]
  refine ⟨_, rfl, i1, ?_, by omega⟩
  have : (nat_more.go b l c).2 = 0 := by omega
  rw [this] at i5
  simpa using i5
theorem bt_get (s : ByteArray) (i : Nat) (h : i < s.data.toList.length) : bt s (i : Int) = ((s.data.toList[i]).toNat : Int) := by
 have h' : i < s.size := by simpa using h
 unfold bt
 rw [dif_pos (by simpa using h')]
 simp [ByteArray.getElem_eq_getElem_data]
theorem toList_nil (s : ByteArray) : s.toList = [] ↔ s.size = 0 := by
 rw [Lib.toList_data, Lib.size_eq]
 exact List.length_eq_zero_iff.symm
def parseW (L : List UInt8) : List Int × Int :=
 if Num.digs L = false then ([], 3) else if L = [] then ([], 3) else if 5000 < L.length then ([], 2) else fitsW (Num.wordsN (Num.decL 0 L))
theorem decL_take_succ (L : List UInt8) (i : Nat) (h : i < L.length) : Num.decL 0 (L.take (i + 1)) = Num.decL 0 (L.take i) * 10 + (L[i].toNat - 48) := by
 rw [List.take_succ_eq_append_getElem h, Num.decL_append]
 rfl
theorem digs_take {L : List UInt8} (h : Num.digs L = true) (i : Nat) : Num.digs (L.take i) = true := by
 unfold Num.digs at *
 rw [List.all_eq_true] at *
 exact fun x hx => h x (List.mem_of_mem_take hx)
theorem digs_drop {L : List UInt8} (h : Num.digs L = true) (i : Nat) : Num.digs (L.drop i) = true := by
 unfold Num.digs at *
 rw [List.all_eq_true] at *
 exact fun x hx => h x (List.mem_of_mem_drop hx)
theorem parse_l2 (s : ByteArray) (L : List UInt8) (hL : s.data.toList = L) (hd : Num.digs L = true) (out : List Int) (n : Nat) (hn : n ≤ 9) (hnl : n ≤ L.length) (R : List Int × Int)
  (hR : Ev (fun k => (nat_more.f out ((10 ^ n : Nat) : Int) ((Num.decL 0 (L.take n) : Nat) : Int)).bind fun t => nat_Parse.l1 k (s.extract n s.size) t) R) (d : Nat) : ∀ i : Nat, i + d = n →
  Ev (fun k => nat_Parse.l2 k s out (n : Int) ((10 ^ i : Nat) : Int) ((Num.decL 0 (L.take i) : Nat) : Int) (n : Int) (i : Int)) R := by
 have hsz : s.size = L.length := by rw [← hL]; simp
 induction d with
 | zero =>
  intro i hi
  obtain rfl : i = n := by omega
  refine Ev.step (fun k => ?_) hR
  simp only [nat_Parse.l2]
  rw [if_neg (by omega)]
  congr 1
  funext t
  rw [if_pos (by omega), if_pos (by omega)]
  rfl
 | succ d ih =>
  intro i hi
  refine Ev.step (fun k => ?_) (ih (i + 1) (by omega))
  simp only [nat_Parse.l2]
  have hc := Num.digs_mem hd (L[i]'(by omega)) (List.getElem_mem _)
  have hb : bt s (i : Int) = ((L[i]'(by omega)).toNat : Int) := by
   subst hL
   exact bt_get s i (by omega)
  have hlt := Num.decL_lt (L.take i) (Num.digs_mem (digs_take hd i))
  rw [List.length_take, Nat.min_eq_left (by omega)] at hlt
  have hp : (10 : Nat) ^ i ≤ 10 ^ 8 := Nat.pow_le_pow_right (by decide) (by omega)
  rw [if_pos (by omega), if_pos (by omega), if_pos (by omega), hb, i64_id (by omega) (by omega)]
  have e1 : ((10 ^ i : Nat) : Int) * 10 % 4294967296 = ((10 ^ (i + 1) : Nat) : Int) := by
   rw [Nat.pow_succ]
   omega
  have e2 : (((Num.decL 0 (L.take i) : Nat) : Int) * 10 % 4294967296 + (((L[i]'(by omega)).toNat : Int) - 48) % 256) % 4294967296 = ((Num.decL 0 (L.take (i + 1)) : Nat) : Int) := by
   rw [decL_take_succ L i (by omega)]
   omega
  rw [e1, e2]
  rfl
theorem parse_l1 (m : Nat) : ∀ (s : ByteArray) (L : List UInt8) (out : List Int), s.data.toList = L → L.length = m → Num.digs L = true → Num.okW out → out.length + L.length ≤ 900000 →
  Ev (fun k => nat_Parse.l1 k s out) (fitsW (Num.wordsN (Num.decL (Num.valN out) L))) := by
 induction m using Nat.strongRecOn with
 | _ m ih =>
  intro s L out hL hm hd hok hlen
  have hsz : s.size = L.length := by rw [← hL]; simp
  by_cases h0 : L.length = 0
  ·have hnil : L = [] := List.eq_nil_of_length_eq_zero h0
   refine Ev.step (f := fun k => (nat_fits.f k out).bind fun t => some (t.1, t.2)) (fun k => ?_) ?_
   ·simp only [nat_Parse.l1]
    rw [if_neg (by omega)]
   ·rw [hnil]
    show Ev _ (fitsW (Num.wordsN (Num.valN out)))
    rw [fitsW_val (Num.wordsN_ok _) hok (Num.wordsN_val _)]
    exact Ev.bind (ev_fits out (by omega)) (Ev.now _)
  ·obtain ⟨n, hn⟩ : ∃ n, n = min L.length 9 := ⟨_, rfl⟩
   have hmn : mn (s.size : Int) 9 = (n : Int) := by unfold mn; split <;> omega
   have hlt := Num.decL_lt (L.take n) (Num.digs_mem (digs_take hd n))
   rw [List.length_take, Nat.min_eq_left (by omega)] at hlt
   have hp : (10 : Nat) ^ n ≤ 10 ^ 9 := Nat.pow_le_pow_right (by decide) (by omega)
   have hp0 : 0 < (10 : Nat) ^ n := Nat.pow_pos (by decide)
   obtain ⟨t, ht, hto, htv, htl⟩ := more_val (b := ((10 ^ n : Nat) : Int)) (c := ((Num.decL 0 (L.take n) : Nat) : Int)) (by omega) (by omega) (by omega) (by omega) hok (by omega)
   have hd2 : (s.extract n s.size).data.toList = L.drop n := by
    rw [← hL]
    exact Lib.extract_to_end s n
   have key := ih (L.length - n) (by omega) (s.extract n s.size) (L.drop n) t hd2 (by simp) (digs_drop hd n) hto (by simp; omega)
   have e : Num.decL (Num.valN t) (L.drop n) = Num.decL (Num.valN out) L := by
    rw [htv]
    have h3 : L = L.take n ++ L.drop n := (List.take_append_drop n L).symm
    conv => rhs; rw [h3, Num.decL_append, Num.decL_acc (Num.valN out) (L.take n), List.length_take, Nat.min_eq_left (show n ≤ L.length by omega)]
    simp only [Int.toNat_natCast]
   rw [e] at key
   refine Ev.step (f := fun k => nat_Parse.l2 k s out (n : Int) ((10 ^ 0 : Nat) : Int) ((Num.decL 0 (L.take 0) : Nat) : Int) (n : Int) ((0 : Nat) : Int)) (fun k => ?_) ?_
   ·simp only [nat_Parse.l1]
    rw [if_pos (by omega), hmn]
    rfl
   ·refine parse_l2 s L hL hd out n (by omega) (by omega) _ ?_ n 0 (by omega)
    rw [ht]
    exact key
theorem parse_l0 (s : ByteArray) (L : List UInt8) (hL : s.data.toList = L) (hlen : L.length ≤ 900000) (d : Nat) : ∀ i : Nat, i + d = L.length → Num.digs (L.take i) = true →
  Ev (fun k => nat_Parse.l0 k s (s.size : Int) (i : Int)) (parseW L) := by
 have hsz : s.size = L.length := by rw [← hL]; simp
 induction d with
 | zero =>
  intro i hi hd
  rw [List.take_of_length_le (by omega)] at hd
  have hnil := toList_nil s
  unfold parseW
  rw [if_neg (by rw [hd]; decide)]
  by_cases h0 : L = []
  ·rw [if_pos h0]
   refine Ev.step (f := fun _ => some (([] : List Int), (3 : Int))) (fun k => ?_) (Ev.now _)
   simp only [nat_Parse.l0]
   rw [if_neg (by omega), if_pos (hnil.2 (by rw [hsz, h0]; rfl))]
  ·rw [if_neg h0]
   have h1 : ¬ s.toList = [] := fun h => h0 (List.eq_nil_of_length_eq_zero (by rw [← hsz]; exact hnil.1 h))
   by_cases h5 : 5000 < L.length
   ·rw [if_pos h5]
    refine Ev.step (f := fun _ => some (([] : List Int), (2 : Int))) (fun k => ?_) (Ev.now _)
    simp only [nat_Parse.l0]
    rw [if_neg (by omega), if_neg h1, if_pos (by omega)]
   ·rw [if_neg h5]
    refine Ev.step (f := fun k => nat_Parse.l1 k s ([] : List Int)) (fun k => ?_) ?_
    ·simp only [nat_Parse.l0]
     rw [if_neg (by omega), if_neg h1, if_neg (by omega)]
    ·exact parse_l1 L.length s L [] hL rfl hd Num.okW_nil (by simp; omega)
 | succ d ih =>
  intro i hi hd
  have hb : bt s (i : Int) = ((L[i]'(by omega)).toNat : Int) := by
   subst hL
   exact bt_get s i (by omega)
  have hbad : ¬ (48 ≤ (L[i]'(by omega)).toNat ∧ (L[i]'(by omega)).toNat ≤ 57) → parseW L = ([], 3) := by
   intro h
   unfold parseW
   rw [if_pos]
   cases hq : Num.digs L with
   | false => rfl
   | true => exact absurd (Num.digs_mem hq _ (List.getElem_mem _)) h
  by_cases h1 : (L[i]'(by omega)).toNat < 48
  ·rw [hbad (by omega)]
   refine Ev.step (f := fun _ => some (([] : List Int), (3 : Int))) (fun k => ?_) (Ev.now _)
   simp only [nat_Parse.l0]
   rw [if_pos (by omega), if_pos (by omega), if_pos (by omega), hb, if_pos (by omega)]
  ·by_cases h2 : 57 < (L[i]'(by omega)).toNat
   ·rw [hbad (by omega)]
    refine Ev.step (f := fun _ => some (([] : List Int), (3 : Int))) (fun k => ?_) (Ev.now _)
    simp only [nat_Parse.l0]
    rw [if_pos (by omega), if_pos (by omega), if_pos (by omega), hb, if_neg (by omega), if_pos (by omega)]
   ·refine Ev.step (fun k => ?_) (ih (i + 1) (by omega) ?_)
    ·simp only [nat_Parse.l0]
     rw [if_pos (by omega), if_pos (by omega), if_pos (by omega), hb, if_neg (by omega), if_neg (by omega), i64_id (by omega) (by omega)]
     rfl
    ·rw [List.take_succ_eq_append_getElem (by omega)]
     unfold Num.digs at hd ⊢
     rw [List.all_append, hd]
     simp
     omega
theorem ev_parse (s : ByteArray) (hlen : s.size ≤ 900000) : Ev (fun k => nat_Parse.f k s) (parseW s.data.toList) := by
 unfold nat_Parse.f
 have := parse_l0 s s.data.toList rfl (by simpa using hlen) s.data.toList.length 0 (by omega) (by simp [Num.digs])
 simpa using this
theorem okW_all {l : List Int} (h : Num.okW l) : (l.all fun x => decide (0 ≤ x) && decide (x < 4294967296)) = true := by
 rw [List.all_eq_true]
 intro x hx
 have := h x hx
 simp only [Bool.and_eq_true, decide_eq_true_eq]
 exact this
theorem text_f {l : List Int} (h : Num.okW l) (hl : l.length ≤ 1000000) : nat_Text.f l = some ⟨(Num.textN (Num.valN l)).toArray⟩ := by
 unfold nat_Text.f
 rw [if_pos ⟨okW_all h, hl⟩]
end Go.Proofs.YtneepokiioefgaaGreatDoor.Pure
namespace Go.Num
theorem val_take_succ (l : List Int) (i : Nat) (h : i < l.length) : valN (l.take (i + 1)) = valN (l.take i) + 4294967296 ^ i * (l.getD i 0).toNat := by
 rw [List.take_succ_eq_append_getElem h, valN_append, List.length_take, Nat.min_eq_left (by omega)]
 simp only [valN, Nat.mul_zero, Nat.add_zero]
 rw [List.getD_eq_getElem?_getD, List.getElem?_eq_getElem h]
 rfl
theorem val_pos {l : List Int} (h : okW l) (hn : normed l) (h0 : l ≠ []) : 0 < valN l := by
 rcases Nat.eq_zero_or_pos (valN l) with h1 | h1
 ·exact absurd (hn.symm.trans ((valN_zero h).1 h1)) h0
 ·exact h1
theorem normed_tail {x : Int} {l : List Int} (h : normed (x :: l)) : normed l := by
 unfold normed at h ⊢
 rw [trimW_cons] at h
 by_cases e : trimW l = []
 ·rw [if_pos e] at h
  by_cases hx : x = 0
  ·rw [if_pos hx] at h; exact absurd h (by simp)
  ·rw [if_neg hx] at h
   have : l = [] := by simpa using h.symm
   rw [this]; rfl
 ·rw [if_neg e] at h
  exact (List.cons.inj h).2
theorem val_ge {l : List Int} (h : okW l) (hn : normed l) : ∀ n, l.length = n + 1 → 4294967296 ^ n ≤ valN l := by
 induction l with
 | nil => intro n e; simp at e
 | cons x xs ih =>
  intro n e
  cases n with
  | zero =>
   have := val_pos h hn (by simp)
   rw [Nat.pow_zero]
   omega
  | succ n =>
   have h1 := ih (okW_cons.1 h).2 (normed_tail hn) n (by simpa using e)
   simp only [valN, Nat.pow_succ]
   omega
theorem lt_of_len {a b : List Int} (ha : okW a) (hb : okW b) (nb : normed b) (h : a.length < b.length) : valN a < valN b := by
 obtain ⟨n, hn⟩ : ∃ n, b.length = n + 1 := ⟨b.length - 1, by omega⟩
 have h1 := val_ge hb nb n hn
 have h2 := valN_lt ha
 have h3 : 4294967296 ^ a.length ≤ 4294967296 ^ n := Nat.pow_le_pow_right (by decide) (by omega)
 omega
def cmpN (a b : Nat) : Int := if a < b then -1 else if b < a then 1 else 0
theorem cmpN_lt {a b : Nat} (h : a < b) : cmpN a b = -1 := by unfold cmpN; rw [if_pos h]
theorem cmpN_gt {a b : Nat} (h : b < a) : cmpN a b = 1 := by unfold cmpN; rw [if_neg (by omega), if_pos h]
theorem cmpN_neg {a b : Nat} : cmpN a b < 0 ↔ a < b := by
 unfold cmpN
 by_cases h : a < b
 ·rw [if_pos h]; simp [h]
 ·rw [if_neg h]
  by_cases h2 : b < a
  ·rw [if_pos h2]; simp [h]
  ·rw [if_neg h2]; simp [h]
def bitsN (v : Nat) : Nat := if v = 0 then 0 else Nat.log2 v + 1
theorem bitsN_zero : bitsN 0 = 0 := rfl
theorem bitsN_pos {v : Nat} (h : 0 < v) : 0 < bitsN v := by unfold bitsN; rw [if_neg (by omega)]; omega
theorem bitsN_lt (v : Nat) : v < 2 ^ bitsN v := by
 unfold bitsN
 by_cases h : v = 0
 ·rw [if_pos h, h]; decide
 ·rw [if_neg h]; exact Nat.lt_log2_self
theorem bitsN_le {v : Nat} (h : 0 < v) : 2 ^ (bitsN v - 1) ≤ v := by
 unfold bitsN
 rw [if_neg (by omega), Nat.add_sub_cancel]
 exact Nat.log2_self_le (by omega)
theorem bitsN_eq {v n : Nat} (h0 : 2 ^ n ≤ v) (h1 : v < 2 ^ (n + 1)) : bitsN v = n + 1 := by
 have hv : 0 < v := Nat.lt_of_lt_of_le (Nat.two_pow_pos n) h0
 have a := bitsN_lt v
 have b := bitsN_le hv
 have c := bitsN_pos hv
 have d : n < bitsN v := by
  rcases Nat.lt_or_ge n (bitsN v) with h | h
  ·exact h
  ·have : 2 ^ bitsN v ≤ 2 ^ n := Nat.pow_le_pow_right (by decide) h
   omega
 have e : bitsN v - 1 < n + 1 := by
  rcases Nat.lt_or_ge (bitsN v - 1) (n + 1) with h | h
  ·exact h
  ·have : 2 ^ (n + 1) ≤ 2 ^ (bitsN v - 1) := Nat.pow_le_pow_right (by decide) h
   omega
 omega
theorem bitsN_mul {v : Nat} (h : 0 < v) (k r : Nat) (hr : r < 2 ^ k) : bitsN (v * 2 ^ k + r) = bitsN v + k := by
 obtain ⟨n, hn⟩ : ∃ n, bitsN v = n + 1 := ⟨bitsN v - 1, by have := bitsN_pos h; omega⟩
 have a := bitsN_lt v
 have b := bitsN_le h
 rw [hn] at a b ⊢
 rw [Nat.add_sub_cancel] at b
 rw [show n + 1 + k = (n + k) + 1 by omega]
 refine bitsN_eq ?_ ?_
 ·rw [Nat.pow_add]
  exact Nat.le_trans (Nat.mul_le_mul_right _ b) (Nat.le_add_right _ _)
 ·rw [show n + k + 1 = (n + 1) + k by omega, Nat.pow_add]
  have : (v + 1) * 2 ^ k ≤ 2 ^ (n + 1) * 2 ^ k := Nat.mul_le_mul_right _ a
  rw [Nat.add_mul, Nat.one_mul] at this
  omega
theorem bitsN_mono {a b : Nat} (h : a ≤ b) : bitsN a ≤ bitsN b := by
 rcases Nat.eq_zero_or_pos a with h0 | h0
 ·rw [h0]; exact Nat.zero_le _
 ·have h1 := bitsN_le h0
  have h2 := bitsN_lt b
  rcases Nat.lt_or_ge (bitsN b) (bitsN a) with h3 | h3
  ·have : 2 ^ bitsN b ≤ 2 ^ (bitsN a - 1) := Nat.pow_le_pow_right (by decide) (by omega)
   omega
  ·exact h3
theorem bitLen_bitsN {x : Nat} (h : x < 18446744073709551616) : Lib.bitLen x = bitsN x := by
 rcases Nat.eq_zero_or_pos x with h0 | h0
 ·rw [h0]; rfl
 ·obtain ⟨a, b, c⟩ := Lib.bitLenAux_bounds 64 x (by simpa using h) (by omega)
  unfold Lib.bitLen
  obtain ⟨n, hn⟩ : ∃ n, Lib.bitLenAux 64 x = n + 1 := ⟨Lib.bitLenAux 64 x - 1, by omega⟩
  rw [hn] at b c ⊢
  exact (bitsN_eq b c).symm
theorem bitsN_words {l : List Int} (hok : okW l) (hn : normed l) : ∀ n, l.length = n + 1 → bitsN (valN l) = 32 * n + bitsN (l.getD n 0).toNat := by
 induction l with
 | nil => intro n e; simp at e
 | cons x xs ih =>
  intro n e
  cases n with
  | zero =>
   have : xs = [] := by simpa using e
   subst this
   simp [valN]
  | succ n =>
   have h1 := ih (okW_cons.1 hok).2 (normed_tail hn) n (by simpa using e)
   have h2 : 0 < valN xs := val_pos (okW_cons.1 hok).2 (normed_tail hn) (by intro h; rw [h] at e; simp at e)
   have h3 := (okW_cons.1 hok).1
   have h4 : valN (x :: xs) = valN xs * 2 ^ 32 + x.toNat := by simp only [valN]; omega
   rw [h4, bitsN_mul h2 32 _ (by omega), h1, List.getD_cons_succ]
   omega
theorem val_take_next (l : List Int) (i : Nat) : valN (l.take (i + 1)) = valN (l.take i) + 4294967296 ^ i * (l.getD i 0).toNat := by
 rcases Nat.lt_or_ge i l.length with h | h
 ·exact val_take_succ l i h
 ·rw [List.take_of_length_le (by omega), List.take_of_length_le h, List.getD_eq_getElem?_getD, List.getElem?_eq_none h]
  simp
theorem okW_snoc {l : List Int} {x : Int} (h : okW l) (h0 : 0 ≤ x) (h1 : x < 4294967296) : okW (l ++ [x]) := okW_append.2 ⟨h, okW_cons.2 ⟨⟨h0, h1⟩, okW_nil⟩⟩
theorem val_snoc (l : List Int) (x : Int) : valN (l ++ [x]) = valN l + 4294967296 ^ l.length * x.toNat := by rw [valN_append]; simp [valN]
theorem wordsN_of {l : List Int} (h : okW l) (n : normed l) : wordsN (valN l) = l := by rw [← trim_words h]; exact n
end Go.Num
namespace Go.Proofs.YtneepokiioefgaaGreatDoor.Pure
open Go.RowKit PNat YtneepokiioefgaaGreatDoorW.PrintWords YtneepokiioefgaaGreatDoorW.PrintLast YtneepokiioefgaaGreatDoorW.PrintMore
theorem rd_toNat (l : List Int) (i : Nat) : (rd l (i : Int)).toNat = (l.getD i 0).toNat := by unfold rd; rw [Int.toNat_natCast]
theorem rd_getD (l : List Int) (i : Nat) : rd l (i : Int) = l.getD i 0 := by unfold rd; rw [Int.toNat_natCast]
theorem rd_ok {l : List Int} (h : Num.okW l) (i : Nat) : 0 ≤ rd l (i : Int) ∧ rd l (i : Int) < 4294967296 := by rw [rd_getD]; exact Num.okW_get h i
theorem cmp_step {a b : List Int} (ha : Num.okW a) (hb : Num.okW b) (n : Nat) :
  (rd a (n : Int) < rd b (n : Int) → Num.cmpN (Num.valN (a.take (n + 1))) (Num.valN (b.take (n + 1))) = -1) ∧
  (rd b (n : Int) < rd a (n : Int) → Num.cmpN (Num.valN (a.take (n + 1))) (Num.valN (b.take (n + 1))) = 1) ∧
  (rd a (n : Int) = rd b (n : Int) → Num.cmpN (Num.valN (a.take (n + 1))) (Num.valN (b.take (n + 1))) = Num.cmpN (Num.valN (a.take n)) (Num.valN (b.take n))) := by
 have oa := rd_ok ha n
 have ob := rd_ok hb n
 have la : Num.valN (a.take n) < 4294967296 ^ n := Nat.lt_of_lt_of_le (Num.valN_lt (Num.okW_take ha n)) (Nat.pow_le_pow_right (by decide) (List.length_take_le _ _))
 have lb : Num.valN (b.take n) < 4294967296 ^ n := Nat.lt_of_lt_of_le (Num.valN_lt (Num.okW_take hb n)) (Nat.pow_le_pow_right (by decide) (List.length_take_le _ _))
 rw [Num.val_take_next, Num.val_take_next, ← rd_toNat, ← rd_toNat]
 generalize Num.valN (a.take n) = va at *
 generalize Num.valN (b.take n) = vb at *
 generalize (4294967296 : Nat) ^ n = P at *
 obtain ⟨x, hx⟩ := Int.eq_ofNat_of_zero_le oa.1
 obtain ⟨y, hy⟩ := Int.eq_ofNat_of_zero_le ob.1
 rw [hx, hy]
 simp only [Int.toNat_natCast]
 refine ⟨fun h => Num.cmpN_lt ?_, fun h => Num.cmpN_gt ?_, fun h => ?_⟩
 ·have : P * (x + 1) ≤ P * y := Nat.mul_le_mul_left _ (by omega)
  rw [Nat.mul_add] at this
  omega
 ·have : P * (y + 1) ≤ P * x := Nat.mul_le_mul_left _ (by omega)
  rw [Nat.mul_add] at this
  omega
 ·have : x = y := by omega
  subst this
  unfold Num.cmpN
  by_cases h1 : va < vb
  ·rw [if_pos h1, if_pos (by omega)]
  ·rw [if_neg h1, if_neg (by omega)]
   by_cases h2 : vb < va
   ·rw [if_pos h2, if_pos (by omega)]
   ·rw [if_neg h2, if_neg (by omega)]
theorem cmp_l0 {a b : List Int} (ha : Num.okW a) (hb : Num.okW b) (hl : a.length ≤ 1000000000) : ∀ n : Nat, n ≤ a.length → n ≤ b.length →
  Ev (fun k => nat_Compare.l0 k a b ((n : Int) - 1)) (Num.cmpN (Num.valN (a.take n)) (Num.valN (b.take n))) := by
 intro n
 induction n with
 | zero =>
  intro _ _
  refine Ev.step (f := fun _ => some 0) (fun k => ?_) ?_
  ·simp only [nat_Compare.l0]
   rw [if_neg (by omega)]
  ·rw [List.take_zero, List.take_zero]
   exact Ev.now _
 | succ n ih =>
  intro h1 h2
  obtain ⟨s1, s2, s3⟩ := cmp_step ha hb n
  have e : ((n + 1 : Nat) : Int) - 1 = (n : Int) := by omega
  rw [e]
  by_cases c1 : rd a (n : Int) < rd b (n : Int)
  ·rw [s1 c1]
   refine Ev.step (f := fun _ => some (-1)) (fun k => ?_) (Ev.now _)
   simp only [nat_Compare.l0]
   rw [if_pos (by omega), if_pos (by omega), if_pos (by omega), if_pos (by omega), if_pos c1]
  ·by_cases c2 : rd b (n : Int) < rd a (n : Int)
   ·rw [s2 c2]
    refine Ev.step (f := fun _ => some 1) (fun k => ?_) (Ev.now _)
    simp only [nat_Compare.l0]
    rw [if_pos (by omega), if_pos (by omega), if_pos (by omega), if_pos (by omega), if_neg c1, if_pos c2]
   ·rw [s3 (by omega)]
    refine Ev.step (fun k => ?_) (ih (by omega) (by omega))
    simp only [nat_Compare.l0]
    rw [if_pos (by omega), if_pos (by omega), if_pos (by omega), if_pos (by omega), if_neg c1, if_neg c2, i64_id (by omega) (by omega)]
theorem ev_cmp (l0 l1 : List Int) (o0 : Num.okW l0) (o1 : Num.okW l1) (h0 : l0.length ≤ 1000000000) (h1 : l1.length ≤ 1000000000) : Ev (fun k => nat_Compare.f k l0 l1) (Num.cmpN (Num.valN l0) (Num.valN l1)) := by
 unfold nat_Compare.f
 refine Ev.bind (ev_trim l0 h0) (Ev.bind (ev_trim l1 h1) ?_)
 have b0 := Num.trimW_length_le l0
 rw [← Num.trimW_val l0, ← Num.trimW_val l1]
 by_cases c : (Num.trimW l0).length = (Num.trimW l1).length
 ·refine Ev.congr (fun k => by rw [if_pos (by omega), i64_id (by omega) (by omega)]) ?_
  have := cmp_l0 (Num.okW_trim o0) (Num.okW_trim o1) (by omega) (Num.trimW l0).length (Nat.le_refl _) (by omega)
  rw [List.take_length, c, List.take_length, ← c] at this
  exact this
 ·by_cases c2 : (Num.trimW l0).length < (Num.trimW l1).length
  ·refine Ev.congr (fun k => by rw [if_neg (by omega), if_pos (by omega)]) ?_
   rw [Num.cmpN_lt (Num.lt_of_len (Num.okW_trim o0) (Num.okW_trim o1) (Num.normed_trim l1) c2)]
   exact Ev.now _
  ·refine Ev.congr (fun k => by rw [if_neg (by omega), if_neg (by omega)]) ?_
   rw [Num.cmpN_gt (Num.lt_of_len (Num.okW_trim o1) (Num.okW_trim o0) (Num.normed_trim l0) (by omega))]
   exact Ev.now _
theorem ev_bits (l : List Int) (ok : Num.okW l) (hl : l.length ≤ 100000000) : Ev (fun k => nat_Bits.f k l) ((Num.bitsN (Num.valN l) : Nat) : Int) := by
 unfold nat_Bits.f
 refine Ev.bind (ev_trim l (by omega)) ?_
 have b0 := Num.trimW_length_le l
 have ht := Num.okW_trim ok
 rw [← Num.trimW_val l]
 have hn := Num.normed_trim l
 generalize Num.trimW l = t at b0 ht hn ⊢
 cases hm : t.length with
 | zero =>
  have : t = [] := List.length_eq_zero_iff.1 hm
  subst this
  refine Ev.congr (f := fun _ => some 0) (fun k => by rw [if_pos (by simp)]) (Ev.now _)
 | succ n =>
  have e : wrap64 (((n + 1 : Nat) : Int) - 1) = (n : Int) := by rw [i64_id (by omega) (by omega)]; omega
  have o := rd_ok ht n
  rw [Num.bitsN_words ht hn n hm]
  have e2 : (rd t (n : Int)).toNat = (t.getD n 0).toNat := rd_toNat t n
  refine Ev.congr (f := fun _ => some (((32 * n + Num.bitsN (t.getD n 0).toNat : Nat) : Int))) (fun k => ?_) (Ev.now _)
  rw [if_neg (by omega), e, if_pos (by omega), if_pos (by omega)]
  simp only [bits_Len32.f]
  rw [if_pos (by omega), Option.bind_some, e2, Num.bitLen_bitsN (by omega)]
  have e3 : Num.bitsN (t.getD n 0).toNat ≤ 32 := by
   have h1 := Num.bitsN_mono (show (t.getD n 0).toNat ≤ 4294967295 by omega)
   have h2 : Num.bitsN 4294967295 = 32 := Num.bitsN_eq (by decide) (by decide)
   omega
  rw [i64_id (x := (n : Int) * 32) (by omega) (by omega), i64_id (by omega) (by omega)]
  congr 1
  omega
theorem u64_mod (z : Int) : IntKind.u64.wrap z = z % 18446744073709551616 := by
 show _ % 18446744073709551616 = _
 rfl
theorem add32 {x y c : Int} (hx : 0 ≤ x ∧ x < 4294967296) (hy : 0 ≤ y ∧ y < 4294967296) (hc : 0 ≤ c ∧ c ≤ 1) : bits_Add32.f x y c = some ((x + y + c) % 4294967296, (x + y + c) / 4294967296) := by
 unfold bits_Add32.f
 simp only [u64_mod]
 congr 2
 ·omega
 ·omega
theorem top_bit (a : Nat) (h : a < 4294967296) : a / 2147483648 = (a.testBit 31).toNat := by
 rw [Nat.testBit_eq_decide_div_mod_eq]
 have : a / 2 ^ 31 < 2 := by omega
 by_cases h1 : a / 2 ^ 31 % 2 = 1
 ·simp only [h1, decide_true, Bool.toNat_true]; omega
 ·simp only [h1, decide_false, Bool.toNat_false]; omega
theorem sub32 {x y c : Int} (hx : 0 ≤ x ∧ x < 4294967296) (hy : 0 ≤ y ∧ y < 4294967296) (hc : 0 ≤ c ∧ c ≤ 1) : bits_Sub32.f x y c = some ((x - y - c) % 4294967296, if x < y + c then 1 else 0) := by
 unfold bits_Sub32.f
 have hd : (((x - y) % 4294967296) - c) % 4294967296 = (x - y - c) % 4294967296 := by omega
 rw [hd]
 have hd0 : 0 ≤ (x - y - c) % 4294967296 ∧ (x - y - c) % 4294967296 < 4294967296 := by omega
 have hdv : (x - y - c) % 4294967296 = x - y - c ∨ (x - y - c) % 4294967296 = x - y - c + 4294967296 := by omega
 generalize (x - y - c) % 4294967296 = d at hd0 hdv ⊢
 obtain ⟨X, rfl⟩ := Int.eq_ofNat_of_zero_le hx.1
 obtain ⟨Y, rfl⟩ := Int.eq_ofNat_of_zero_le hy.1
 obtain ⟨D, rfl⟩ := Int.eq_ofNat_of_zero_le hd0.1
 have hX : X < 4294967296 := by omega
 have hY : Y < 4294967296 := by omega
 have hD : D < 4294967296 := by omega
 have hm : IntKind.u32.max = ((4294967295 : Nat) : Int) := by decide
 have hM : (4294967295 : Nat) < 4294967296 := by decide
 have l1 : 4294967295 ^^^ X < 4294967296 := Nat.xor_lt_two_pow (n := 32) (by omega) (by omega)
 have l2 : X ^^^ Y < 4294967296 := Nat.xor_lt_two_pow (n := 32) (by omega) (by omega)
 have l3 : 4294967295 ^^^ (X ^^^ Y) < 4294967296 := Nat.xor_lt_two_pow (n := 32) (by omega) (by omega)
 have l4 : (4294967295 ^^^ X) &&& Y < 4294967296 := Nat.and_lt_two_pow (n := 32) _ (by omega)
 have l5 : (4294967295 ^^^ (X ^^^ Y)) &&& D < 4294967296 := Nat.and_lt_two_pow (n := 32) _ (by omega)
 have l6 : ((4294967295 ^^^ X) &&& Y) ||| ((4294967295 ^^^ (X ^^^ Y)) &&& D) < 4294967296 := Nat.or_lt_two_pow (n := 32) (by omega) (by omega)
 rw [hm, u32_xor_nat _ _ hM hX, u32_and_nat _ _ l1 hY, u32_xor_nat _ _ hX hY, u32_xor_nat _ _ hM l2, u32_and_nat _ _ l3 hD, u32_or_nat _ _ l4 l5]
 have e : ((((4294967295 ^^^ X) &&& Y) ||| ((4294967295 ^^^ (X ^^^ Y)) &&& D) : Nat) : Int) / 2147483648 = ((((4294967295 ^^^ X) &&& Y) ||| ((4294967295 ^^^ (X ^^^ Y)) &&& D)) / 2147483648 : Nat) := by omega
 rw [e, top_bit _ l6]
 simp only [Nat.testBit_or, Nat.testBit_and, Nat.testBit_xor]
 have tm : Nat.testBit 4294967295 31 = true := by decide
 have tX := top_bit X hX
 have tY := top_bit Y hY
 have tD := top_bit D hD
 rw [tm]
 congr 2
 generalize X.testBit 31 = p at *
 generalize Y.testBit 31 = q at *
 generalize D.testBit 31 = s at *
 cases p <;> cases q <;> cases s <;> simp only [Bool.toNat_true, Bool.toNat_false, Bool.true_xor, Bool.false_xor, Bool.xor_true, Bool.xor_false, Bool.not_true, Bool.not_false, Bool.and_true, Bool.and_false, Bool.or_true, Bool.or_false, Bool.true_and, Bool.false_and, Bool.true_or, Bool.false_or] at tX tY tD ⊢ <;> split <;> first | rfl | (exfalso; omega)
theorem set_next (l : List Int) (n : Nat) (v : Int) : (l ++ List.replicate (n + 1) 0).set l.length v = (l ++ [v]) ++ List.replicate n 0 := by
 rw [List.set_append_right _ _ (Nat.le_refl _), Nat.sub_self, List.replicate_succ, List.set_cons_zero]
 simp
theorem carry_step {P vd va vb x y c : Nat} (h : vd + P * c = va + vb) : vd + P * ((x + y + c) % 4294967296) + P * 4294967296 * ((x + y + c) / 4294967296) = (va + P * x) + (vb + P * y) := by
 have e : P * ((x + y + c) % 4294967296) + P * 4294967296 * ((x + y + c) / 4294967296) = P * (x + y + c) := by
  rw [Nat.mul_assoc, ← Nat.mul_add, Nat.mod_add_div]
 rw [Nat.mul_add, Nat.mul_add] at e
 omega
theorem rd_beyond {l : List Int} {i : Nat} (h : l.length ≤ i) : rd l (i : Int) = 0 := by
 rw [rd_getD, List.getD_eq_getElem?_getD, List.getElem?_eq_none h]; rfl
theorem add_l0 {a b : List Int} (oa : Num.okW a) (ob : Num.okW b) (hab : b.length ≤ a.length) (hl : a.length ≤ 100000000) (d : Nat) : ∀ (i : Nat) (dn : List Int) (c : Int), i + d = a.length → dn.length = i → Num.okW dn → 0 ≤ c ∧ c ≤ 1 →
  Num.valN dn + 4294967296 ^ i * c.toNat = Num.valN (a.take i) + Num.valN (b.take i) →
  Ev (fun k => nat_Add.l0 k a b (dn ++ List.replicate (d + 1) 0) c a (a.length : Int) (i : Int)) (Num.wordsN (Num.valN a + Num.valN b)) := by
 induction d with
 | zero =>
  intro i dn c hi hd od hc hv
  have e : (dn ++ List.replicate (0 + 1) 0).set a.length c = dn ++ [c] := by
   rw [show a.length = dn.length by omega, set_next]; simp
  refine Ev.step (f := fun k => (nat_trim.f k (dn ++ [c])).bind fun t => some t) (fun k => ?_) ?_
  ·simp only [nat_Add.l0]
   rw [if_neg (by omega), if_pos (by omega), if_pos (by simp only [List.length_append, List.length_replicate]; omega), Int.toNat_natCast, e]
  ·refine Ev.bind (ev_trim _ (by simp only [List.length_append, List.length_cons, List.length_nil]; omega)) ?_
   rw [Num.trim_words (Num.okW_snoc od hc.1 (by omega)), Num.val_snoc, hd, hv, List.take_of_length_le (by omega), List.take_of_length_le (by omega)]
   exact Ev.now _
 | succ d ih =>
  intro i dn c hi hd od hc hv
  have ox := rd_ok oa i
  have oy := rd_ok ob i
  have hs : (dn ++ List.replicate (d + 1 + 1) 0).set i ((rd a (i : Int) + rd b (i : Int) + c) % 4294967296) = (dn ++ [(rd a (i : Int) + rd b (i : Int) + c) % 4294967296]) ++ List.replicate (d + 1) 0 := by
   rw [← hd]; exact set_next _ _ _
  have hn := ih (i + 1) (dn ++ [(rd a (i : Int) + rd b (i : Int) + c) % 4294967296]) ((rd a (i : Int) + rd b (i : Int) + c) / 4294967296) (by omega) (by simp [hd]) (Num.okW_snoc od (by omega) (by omega)) (by omega) (by
   rw [Num.val_snoc, hd, Num.val_take_next, Num.val_take_next, ← rd_toNat, ← rd_toNat, Nat.pow_succ]
   have := carry_step (x := (rd a (i : Int)).toNat) (y := (rd b (i : Int)).toNat) hv
   rw [show ((rd a (i : Int) + rd b (i : Int) + c) % 4294967296).toNat = ((rd a (i : Int)).toNat + (rd b (i : Int)).toNat + c.toNat) % 4294967296 by omega, show ((rd a (i : Int) + rd b (i : Int) + c) / 4294967296).toNat = ((rd a (i : Int)).toNat + (rd b (i : Int)).toNat + c.toNat) / 4294967296 by omega]
   exact this)
  have hlen : (i : Int) < ((dn ++ List.replicate (d + 1 + 1) 0).length : Int) := by simp only [List.length_append, List.length_replicate]; omega
  refine Ev.step (fun k => ?_) hn
  simp only [nat_Add.l0]
  rw [if_pos (by omega), if_pos (by omega), if_pos (by omega), i64_id (show -9223372036854775808 ≤ (i : Int) + 1 by omega) (by omega)]
  by_cases hb : (i : Int) < (b.length : Int)
  ·rw [if_pos hb, add32 ox oy hc]
   simp only [Option.bind_some]
   rw [if_pos hlen, Int.toNat_natCast, hs]
   rfl
  ·have h0 : rd b (i : Int) = 0 := rd_beyond (by omega)
   rw [h0] at hs ⊢
   rw [if_neg hb, add32 ox (by omega) hc]
   simp only [Option.bind_some]
   rw [if_pos hlen, Int.toNat_natCast, hs]
   rfl
theorem add_j0 {a b : List Int} (oa : Num.okW a) (ob : Num.okW b) (hab : b.length ≤ a.length) (hl : a.length ≤ 100000000) : Ev (fun k => nat_Add.j0 k a b) (Num.wordsN (Num.valN a + Num.valN b)) := by
 have h := add_l0 oa ob hab hl a.length 0 [] 0 (by omega) rfl Num.okW_nil (by omega) (by simp [Num.valN])
 refine Ev.step (fun k => ?_) h
 simp only [nat_Add.j0]
 rw [i64_id (show -9223372036854775808 ≤ (a.length : Int) + 1 by omega) (by omega), if_pos (by omega), if_pos (by omega), show ((a.length : Int) + 1).toNat = a.length + 1 by omega]
 rfl
theorem ev_add (l0 l1 : List Int) (o0 : Num.okW l0) (o1 : Num.okW l1) (h0 : l0.length ≤ 100000000) (h1 : l1.length ≤ 100000000) : Ev (fun k => nat_Add.f k l0 l1) (Num.wordsN (Num.valN l0 + Num.valN l1)) := by
 unfold nat_Add.f
 refine Ev.bind (ev_trim l0 (by omega)) (Ev.bind (ev_trim l1 (by omega)) ?_)
 have b0 := Num.trimW_length_le l0
 have b1 := Num.trimW_length_le l1
 rw [← Num.trimW_val l0, ← Num.trimW_val l1]
 by_cases c : (Num.trimW l0).length < (Num.trimW l1).length
 ·refine Ev.congr (fun k => by rw [if_pos (by omega)]) ?_
  rw [Nat.add_comm]
  exact add_j0 (Num.okW_trim o1) (Num.okW_trim o0) (by omega) (by omega)
 ·refine Ev.congr (fun k => by rw [if_neg (by omega)]) ?_
  exact add_j0 (Num.okW_trim o0) (Num.okW_trim o1) (by omega) (by omega)
theorem sub_word {x y c : Int} (hx : 0 ≤ x ∧ x < 4294967296) (hy : 0 ≤ y ∧ y < 4294967296) (hc : 0 ≤ c ∧ c ≤ 1) : x.toNat + 4294967296 * (if x < y + c then (1 : Int) else 0).toNat = ((x - y - c) % 4294967296).toNat + y.toNat + c.toNat ∧ (0 ≤ (if x < y + c then (1 : Int) else 0) ∧ (if x < y + c then (1 : Int) else 0) ≤ 1) := by
 split <;> refine ⟨?_, by decide⟩ <;> omega
theorem set_prev (n : Nat) (l : List Int) (v : Int) : (List.replicate (n + 1) 0 ++ l).set n v = List.replicate n 0 ++ v :: l := by
 rw [List.replicate_succ', List.append_assoc, List.set_append_right _ _ (by simp), List.length_replicate, Nat.sub_self]
 rfl
theorem short_l0 {l : List Int} (ok : Num.okW l) {d : Int} (hd : 0 < d ∧ d < 4294967296) (hl : l.length ≤ 1000000000) : ∀ n : Nat, n ≤ l.length →
  Ev (fun k => nat_short.l0 k l d (List.replicate n 0 ++ (Num.shq d (l.drop n)).1) (Num.shq d (l.drop n)).2 ((n : Int) - 1)) (Num.shq d l) := by
 intro n
 induction n with
 | zero =>
  intro _
  refine Ev.step (f := fun _ => some (Num.shq d l)) (fun k => ?_) (Ev.now _)
  simp only [nat_short.l0]
  rw [if_neg (by omega)]
  simp
 | succ n ih =>
  intro h
  have e : ((n + 1 : Nat) : Int) - 1 = (n : Int) := by omega
  have hx := rd_ok ok n
  have hr := Num.shq_rest hd.1 (l.drop (n + 1))
  have ed : l.drop n = rd l (n : Int) :: l.drop (n + 1) := by
   rw [List.drop_eq_getElem_cons (by omega), rd_getD, List.getD_eq_getElem?_getD, List.getElem?_eq_getElem (by omega)]
   rfl
  have h2 := ih (by omega)
  rw [ed] at h2
  simp only [Num.shq] at h2
  rw [e]
  refine Ev.step (fun k => ?_) h2
  simp only [nat_short.l0]
  rw [if_pos (by omega), if_pos (by omega), if_pos (by omega)]
  simp only [bits_Div32.f]
  rw [if_pos ⟨hr.1, hr.2, hx.1, hx.2, hd.2⟩, Option.bind_some, if_pos (by simp only [List.length_append, List.length_replicate]; omega), i64_id (by omega) (by omega), Int.toNat_natCast, set_prev]
theorem ev_short (l : List Int) (ok : Num.okW l) (d : Int) (hd : 0 < d ∧ d < 4294967296) (hl : l.length ≤ 1000000000) : Ev (fun k => nat_short.f k l d) (Num.shq d l) := by
 unfold nat_short.f
 refine Ev.congr (fun k => by rw [if_pos (by omega), if_pos (by omega), Int.toNat_natCast, i64_id (by omega) (by omega)]) ?_
 have h := short_l0 ok hd hl l.length (Nat.le_refl _)
 rw [List.drop_length] at h
 simpa [Num.shq] using h
theorem take_step {P vd va vb n x y b c v b' c' : Nat} (h : vd + n * vb = va + P * (b + c)) (e1 : x + 4294967296 * b' + 4294967296 * c' = v + b + (c + n * y)) : (vd + P * v) + n * (vb + P * y) = (va + P * x) + P * 4294967296 * (b' + c') := by
 have e2 : P * (x + 4294967296 * b' + 4294967296 * c') = P * (v + b + (c + n * y)) := by rw [e1]
 have e3 : n * (P * y) = P * (n * y) := Nat.mul_left_comm _ _ _
 rw [Nat.mul_add] at h
 simp only [Nat.mul_add, ← Nat.mul_assoc] at e2
 simp only [Nat.mul_add, e3, ← Nat.mul_assoc]
 omega
theorem take_l0 {X V : List Int} (oX : Num.okW X) (oV : Num.okW V) (n : Nat) (hn : n < 4294967296) (hX : X.length = V.length + 1) (hl : V.length ≤ 1000000) (d : Nat) : ∀ (i : Nat) (dn : List Int) (c b : Int), i + d = V.length → dn.length = i → Num.okW dn → (0 ≤ c ∧ c < 4294967296) → (0 ≤ b ∧ b ≤ 1) →
  Num.valN dn + n * Num.valN (V.take i) = Num.valN (X.take i) + 4294967296 ^ i * (b.toNat + c.toNat) →
  ∃ X' : List Int, Num.okW X' ∧ X'.length = X.length ∧ ∃ bo : Nat, bo ≤ 1 ∧ Num.valN X' + n * Num.valN V = Num.valN X + 4294967296 ^ X.length * bo ∧
   Ev (fun k => nat_take.l0 k (dn ++ X.drop i) V (n : Int) c b V (V.length : Int) (i : Int)) (decide (bo ≠ 0), X') := by
 induction d with
 | zero =>
  intro i dn c b hi hd od hc hb hv
  have hiV : i = V.length := by omega
  have ox := rd_ok oX i
  have e1 : rd (dn ++ X.drop i) (V.length : Int) = rd X (i : Int) := by
   rw [← hiV, rd_getD, rd_getD, List.getD_eq_getElem?_getD, List.getD_eq_getElem?_getD, List.getElem?_append_right (by omega), hd, Nat.sub_self, List.getElem?_drop, Nat.add_zero]
  have e2 : ∀ z : Int, (dn ++ X.drop i).set V.length z = dn ++ [z] := by
   intro z
   rw [← hiV, List.set_append_right _ _ (by omega), hd, Nat.sub_self, List.drop_eq_getElem_cons (by omega), List.set_cons_zero, List.drop_of_length_le (by omega)]
  have hs := sub32 ox hc hb
  obtain ⟨w1, w2⟩ := sub_word ox hc hb
  refine ⟨dn ++ [(rd X (i : Int) - c - b) % 4294967296], Num.okW_snoc od (by omega) (by omega), by simp; omega, (if rd X (i : Int) < c + b then (1 : Int) else 0).toNat, by omega, ?_, ?_⟩
  ·rw [Num.val_snoc, hd]
   have hV : Num.valN (V.take i) = Num.valN V := by rw [List.take_of_length_le (by omega)]
   have hXv : Num.valN X = Num.valN (X.take i) + 4294967296 ^ i * (rd X (i : Int)).toNat := by
    have := Num.val_take_next X i
    rw [List.take_of_length_le (l := X) (i := i + 1) (by omega), ← rd_toNat] at this
    exact this
   rw [hV] at hv
   rw [hXv, show X.length = i + 1 by omega, Nat.pow_succ]
   generalize (4294967296 : Nat) ^ i = P at *
   have e3 : P * ((rd X (i : Int)).toNat + 4294967296 * (if rd X (i : Int) < c + b then (1 : Int) else 0).toNat) = P * (((rd X (i : Int) - c - b) % 4294967296).toNat + c.toNat + b.toNat) := by rw [w1]
   simp only [Nat.mul_add, ← Nat.mul_assoc] at e3 hv ⊢
   omega
  ·refine Ev.step (f := fun _ => some (decide ((if rd X (i : Int) < c + b then (1 : Int) else 0).toNat ≠ 0), dn ++ [(rd X (i : Int) - c - b) % 4294967296])) (fun k => ?_) (Ev.now _)
   simp only [nat_take.l0]
   rw [if_neg (by omega), if_pos (by omega), if_pos (by simp only [List.length_append, List.length_drop]; omega), e1, Int.emod_eq_of_lt hc.1 hc.2, hs]
   simp only [Option.bind_some, Int.toNat_natCast]
   rw [e2]
   congr 2
   split <;> rfl
 | succ d ih =>
  intro i dn c b hi hd od hc hb hv
  have ox := rd_ok oX i
  have oy := rd_ok oV i
  obtain ⟨x, hx⟩ := Int.eq_ofNat_of_zero_le ox.1
  obtain ⟨y, hy⟩ := Int.eq_ofNat_of_zero_le oy.1
  obtain ⟨C, rfl⟩ := Int.eq_ofNat_of_zero_le hc.1
  have e1 : rd (dn ++ X.drop i) (i : Int) = (x : Int) := by
   rw [← hx, rd_getD, rd_getD, List.getD_eq_getElem?_getD, List.getD_eq_getElem?_getD, List.getElem?_append_right (by omega), hd, Nat.sub_self, List.getElem?_drop, Nat.add_zero]
  have e2 : ∀ z : Int, (dn ++ X.drop i).set i z = (dn ++ [z]) ++ X.drop (i + 1) := by
   intro z
   rw [List.set_append_right _ _ (by omega), hd, Nat.sub_self, List.drop_eq_getElem_cons (by omega), List.set_cons_zero]
   simp
  have hny : n * y ≤ 4294967295 * 4294967295 := Nat.mul_le_mul (by omega) (by omega)
  have eT : IntKind.u64.wrap ((C : Int) + IntKind.u64.wrap ((n : Int) * IntKind.u64.wrap (y : Int))) = ((C + n * y : Nat) : Int) := by
   rw [u64_id (x := (y : Int)) (by omega) (by omega), ← Int.natCast_mul, u64_id (x := ((n * y : Nat) : Int)) (by omega) (by omega), ← Int.natCast_add, u64_id (by omega) (by omega)]
  obtain ⟨T, hT⟩ : ∃ T, T = C + n * y := ⟨_, rfl⟩
  rw [← hT] at eT
  have eD : ((T : Int)) / 4294967296 = ((T / 4294967296 : Nat) : Int) := by omega
  have eM : ((T : Int)) % 4294967296 = ((T % 4294967296 : Nat) : Int) := by omega
  have oT : 0 ≤ ((T % 4294967296 : Nat) : Int) ∧ ((T % 4294967296 : Nat) : Int) < 4294967296 := by omega
  have ox' : 0 ≤ (x : Int) ∧ (x : Int) < 4294967296 := by rw [← hx]; exact ox
  have hs := sub32 ox' oT hb
  obtain ⟨w1, w2⟩ := sub_word ox' oT hb
  have hT2 : T / 4294967296 < 4294967296 := by omega
  obtain ⟨X', o', l', bo, hbo, hval, hev⟩ := ih (i + 1) (dn ++ [((x : Int) - ((T % 4294967296 : Nat) : Int) - b) % 4294967296]) ((T / 4294967296 : Nat) : Int) (if (x : Int) < ((T % 4294967296 : Nat) : Int) + b then 1 else 0) (by omega) (by simp [hd]) (Num.okW_snoc od (by omega) (by omega)) (by omega) w2 (by
   rw [Num.val_snoc, hd, Num.val_take_next, Num.val_take_next, ← rd_toNat, ← rd_toNat, Nat.pow_succ, hx, hy]
   simp only [Int.toNat_natCast] at w1 hv ⊢
   refine take_step hv ?_
   omega)
  refine ⟨X', o', l', bo, hbo, hval, Ev.step (fun k => ?_) hev⟩
  simp only [nat_take.l0]
  rw [if_pos (by omega), if_pos (by omega), if_pos (by omega), if_pos (by simp only [List.length_append, List.length_drop]; omega), i64_id (show -9223372036854775808 ≤ (i : Int) + 1 by omega) (by omega), e1, hy, eT, eD, eM, hs]
  simp only [Option.bind_some, Int.toNat_natCast]
  rw [e2]
  rfl
theorem ev_take (X V : List Int) (oX : Num.okW X) (oV : Num.okW V) (n : Nat) (hn : n < 4294967296) (hX : X.length = V.length + 1) (hl : V.length ≤ 1000000) :
  ∃ X' : List Int, Num.okW X' ∧ X'.length = X.length ∧ ∃ bo : Nat, bo ≤ 1 ∧ Num.valN X' + n * Num.valN V = Num.valN X + 4294967296 ^ X.length * bo ∧ Ev (fun k => nat_take.f k X V (n : Int)) (decide (bo ≠ 0), X') := by
 have h := take_l0 oX oV n hn hX hl V.length 0 [] 0 0 (by omega) rfl Num.okW_nil (by omega) (by omega) (by simp [Num.valN])
 simpa [nat_take.f] using h
theorem give_l0 {X V : List Int} (oX : Num.okW X) (oV : Num.okW V) (hX : X.length = V.length + 1) (hl : V.length ≤ 1000000) (d : Nat) : ∀ (i : Nat) (dn : List Int) (c : Int), i + d = V.length → dn.length = i → Num.okW dn → (0 ≤ c ∧ c ≤ 1) →
  Num.valN dn + 4294967296 ^ i * c.toNat = Num.valN (X.take i) + Num.valN (V.take i) →
  ∃ X' : List Int, Num.okW X' ∧ X'.length = X.length ∧ (∃ o : Nat, Num.valN X' + 4294967296 ^ X.length * o = Num.valN X + Num.valN V) ∧
   Ev (fun k => nat_give.l0 k (dn ++ X.drop i) V c V (V.length : Int) (i : Int)) X' := by
 induction d with
 | zero =>
  intro i dn c hi hd od hc hv
  have hiV : i = V.length := by omega
  have ox := rd_ok oX i
  have e1 : rd (dn ++ X.drop i) (V.length : Int) = rd X (i : Int) := by
   rw [← hiV, rd_getD, rd_getD, List.getD_eq_getElem?_getD, List.getD_eq_getElem?_getD, List.getElem?_append_right (by omega), hd, Nat.sub_self, List.getElem?_drop, Nat.add_zero]
  have e2 : ∀ z : Int, (dn ++ X.drop i).set V.length z = dn ++ [z] := by
   intro z
   rw [← hiV, List.set_append_right _ _ (by omega), hd, Nat.sub_self, List.drop_eq_getElem_cons (by omega), List.set_cons_zero, List.drop_of_length_le (by omega)]
  refine ⟨dn ++ [(rd X (i : Int) + c) % 4294967296], Num.okW_snoc od (by omega) (by omega), by simp; omega, ⟨((rd X (i : Int) + c) / 4294967296).toNat, ?_⟩, ?_⟩
  ·rw [Num.val_snoc, hd]
   have hV : Num.valN (V.take i) = Num.valN V := by rw [List.take_of_length_le (by omega)]
   have hXv : Num.valN X = Num.valN (X.take i) + 4294967296 ^ i * (rd X (i : Int)).toNat := by
    have := Num.val_take_next X i
    rw [List.take_of_length_le (l := X) (i := i + 1) (by omega), ← rd_toNat] at this
    exact this
   rw [hV] at hv
   rw [hXv, show X.length = i + 1 by omega, Nat.pow_succ]
   have e3 : ((rd X (i : Int) + c) % 4294967296).toNat + 4294967296 * ((rd X (i : Int) + c) / 4294967296).toNat = (rd X (i : Int)).toNat + c.toNat := by omega
   generalize (4294967296 : Nat) ^ i = P at *
   have e4 : P * (((rd X (i : Int) + c) % 4294967296).toNat + 4294967296 * ((rd X (i : Int) + c) / 4294967296).toNat) = P * ((rd X (i : Int)).toNat + c.toNat) := by rw [e3]
   simp only [Nat.mul_add, ← Nat.mul_assoc] at e4 ⊢
   omega
  ·refine Ev.step (f := fun _ => some (dn ++ [(rd X (i : Int) + c) % 4294967296])) (fun k => ?_) (Ev.now _)
   simp only [nat_give.l0]
   rw [if_neg (by omega), if_pos (by omega), if_pos (by simp only [List.length_append, List.length_drop]; omega), e1, Int.toNat_natCast, e2]
 | succ d ih =>
  intro i dn c hi hd od hc hv
  have ox := rd_ok oX i
  have oy := rd_ok oV i
  have e1 : rd (dn ++ X.drop i) (i : Int) = rd X (i : Int) := by
   rw [rd_getD, rd_getD, List.getD_eq_getElem?_getD, List.getD_eq_getElem?_getD, List.getElem?_append_right (by omega), hd, Nat.sub_self, List.getElem?_drop, Nat.add_zero]
  have e2 : ∀ z : Int, (dn ++ X.drop i).set i z = (dn ++ [z]) ++ X.drop (i + 1) := by
   intro z
   rw [List.set_append_right _ _ (by omega), hd, Nat.sub_self, List.drop_eq_getElem_cons (by omega), List.set_cons_zero]
   simp
  obtain ⟨X', o', l', hval, hev⟩ := ih (i + 1) (dn ++ [(rd X (i : Int) + rd V (i : Int) + c) % 4294967296]) ((rd X (i : Int) + rd V (i : Int) + c) / 4294967296) (by omega) (by simp [hd]) (Num.okW_snoc od (by omega) (by omega)) (by omega) (by
   rw [Num.val_snoc, hd, Num.val_take_next, Num.val_take_next, ← rd_toNat, ← rd_toNat, Nat.pow_succ]
   have := carry_step (x := (rd X (i : Int)).toNat) (y := (rd V (i : Int)).toNat) hv
   rw [show ((rd X (i : Int) + rd V (i : Int) + c) % 4294967296).toNat = ((rd X (i : Int)).toNat + (rd V (i : Int)).toNat + c.toNat) % 4294967296 by omega, show ((rd X (i : Int) + rd V (i : Int) + c) / 4294967296).toNat = ((rd X (i : Int)).toNat + (rd V (i : Int)).toNat + c.toNat) / 4294967296 by omega]
   exact this)
  refine ⟨X', o', l', hval, Ev.step (fun k => ?_) hev⟩
  simp only [nat_give.l0]
  rw [if_pos (by omega), if_pos (by omega), if_pos (by omega), if_pos (by simp only [List.length_append, List.length_drop]; omega), i64_id (show -9223372036854775808 ≤ (i : Int) + 1 by omega) (by omega), e1, add32 ox oy hc]
  simp only [Option.bind_some, Int.toNat_natCast]
  rw [e2]
  rfl
theorem ev_give (X V : List Int) (oX : Num.okW X) (oV : Num.okW V) (hX : X.length = V.length + 1) (hl : V.length ≤ 1000000) :
  ∃ X' : List Int, Num.okW X' ∧ X'.length = X.length ∧ (∃ o : Nat, Num.valN X' + 4294967296 ^ X.length * o = Num.valN X + Num.valN V) ∧ Ev (fun k => nat_give.f k X V) X' := by
 have h := give_l0 oX oV hX hl V.length 0 [] 0 (by omega) rfl Num.okW_nil (by omega) (by simp [Num.valN])
 simpa [nat_give.f] using h
theorem guess_l0 (u0 v1 v0 : Nat) (h0 : u0 < 4294967296) (h1 : 0 < v1 ∧ v1 < 4294967296) (hv0 : v0 < 4294967296) (W : Nat) : ∀ (n r : Nat), n < 4294967296 → r < 8589934592 → W = n * v1 + r →
  ∃ m : Nat, m ≤ n ∧ (∀ q, q ≤ n → q * (v1 * 4294967296 + v0) ≤ W * 4294967296 + u0 → q ≤ m) ∧ Ev (fun k => nat_guess.l0 k (u0 : Int) (v1 : Int) (v0 : Int) (n : Int) (r : Int)) (m : Int) := by
 intro n
 induction n with
 | zero =>
  intro r hn hr hW
  refine ⟨0, Nat.le_refl _, fun q h _ => h, ?_⟩
  refine Ev.step (f := fun _ => some 0) (fun k => ?_) (Ev.now _)
  simp only [nat_guess.l0]
  by_cases c : (r : Int) < 4294967296
  ·rw [if_pos c]
   have e : IntKind.u64.wrap (((0 : Nat) : Int) * IntKind.u64.wrap (v0 : Int)) = 0 := by rw [show ((0 : Nat) : Int) = 0 from rfl, Int.zero_mul]; rfl
   have e2 : 0 ≤ bits .or .u64 (IntKind.u64.wrap ((r : Int) * 4294967296)) (IntKind.u64.wrap (u0 : Int)) := by
    rw [u64_id (x := (r : Int) * 4294967296) (by omega) (by omega), u64_id (x := (u0 : Int)) (by omega) (by omega), u64_or _ _ (by omega) (by omega) (by omega) (by omega)]
    omega
   rw [e, if_neg (by omega)]
   rfl
  ·rw [if_neg c]
   rfl
 | succ n ih =>
  intro r hn hr hW
  by_cases c : (r : Int) < 4294967296
  ·have e : IntKind.u64.wrap (((n + 1 : Nat) : Int) * IntKind.u64.wrap (v0 : Int)) = (((n + 1) * v0 : Nat) : Int) := by
    have : (n + 1) * v0 ≤ 4294967295 * 4294967295 := Nat.mul_le_mul (by omega) (by omega)
    rw [u64_id (x := (v0 : Int)) (by omega) (by omega), ← Int.natCast_mul, u64_id (by omega) (by omega)]
   have e2 : bits .or .u64 (IntKind.u64.wrap ((r : Int) * 4294967296)) (IntKind.u64.wrap (u0 : Int)) = (r : Int) * 4294967296 + (u0 : Int) := by
    rw [u64_id (x := (r : Int) * 4294967296) (by omega) (by omega), u64_id (x := (u0 : Int)) (by omega) (by omega), u64_or _ _ (by omega) (by omega) (by omega) (by omega), nat_join 32 _ _ (by omega) (by omega)]
    omega
   by_cases g : (n + 1) * v0 > r * 4294967296 + u0
   ·obtain ⟨m, hm, hq, hev⟩ := ih (r + v1) (by omega) (by omega) (by rw [hW, Nat.add_mul]; omega)
    refine ⟨m, by omega, fun q h1 h2 => ?_, Ev.step (fun k => ?_) hev⟩
    ·refine hq q ?_ h2
     rcases Nat.lt_or_ge q (n + 1) with h3 | h3
     ·omega
     ·exfalso
      have : q = n + 1 := by omega
      subst this
      have e5 : (n + 1) * (v1 * 4294967296 + v0) = (n + 1) * v1 * 4294967296 + (n + 1) * v0 := by rw [Nat.mul_add, Nat.mul_assoc]
      rw [hW, e5, Nat.add_mul] at h2
      omega
    ·simp only [nat_guess.l0]
     rw [if_pos c, e, e2, if_pos (by omega), u64_id (x := ((n + 1 : Nat) : Int) - 1) (by omega) (by omega), u64_id (x := (v1 : Int)) (by omega) (by omega), u64_id (x := (r : Int) + (v1 : Int)) (by omega) (by omega), show ((n + 1 : Nat) : Int) - 1 = (n : Int) by omega, ← Int.natCast_add]
   ·refine ⟨n + 1, Nat.le_refl _, fun q h1 _ => h1, ?_⟩
    refine Ev.step (f := fun _ => some ((n + 1 : Nat) : Int)) (fun k => ?_) (Ev.now _)
    simp only [nat_guess.l0]
    rw [if_pos c, e, e2, if_neg (by omega)]
  ·refine ⟨n + 1, Nat.le_refl _, fun q h1 _ => h1, ?_⟩
   refine Ev.step (f := fun _ => some ((n + 1 : Nat) : Int)) (fun k => ?_) (Ev.now _)
   simp only [nat_guess.l0]
   rw [if_neg c]
theorem ev_guess (u2 u1 u0 v1 v0 : Nat) (hu2 : u2 < 4294967296) (hu1 : u1 < 4294967296) (h0 : u0 < 4294967296) (h1 : 0 < v1 ∧ v1 < 4294967296) (hv0 : v0 < 4294967296) (h21 : u2 ≤ v1) :
  ∃ m : Nat, m < 4294967296 ∧ m * v1 ≤ u2 * 4294967296 + u1 ∧ (∀ q, q < 4294967296 → q * (v1 * 4294967296 + v0) ≤ (u2 * 4294967296 + u1) * 4294967296 + u0 → q ≤ m) ∧ Ev (fun k => nat_guess.f k (u2 : Int) (u1 : Int) (u0 : Int) (v1 : Int) (v0 : Int)) (m : Int) := by
 by_cases c : u2 ≥ v1
 ·refine ⟨4294967295, by decide, by omega, fun q h _ => by omega, ?_⟩
  unfold nat_guess.f
  refine Ev.congr (f := fun _ => some ((4294967295 : Nat) : Int)) (fun k => by rw [if_pos (by omega)]; rfl) (Ev.now _)
 ·have hq : (u2 * 4294967296 + u1) / v1 < 4294967296 := by
   rw [Nat.div_lt_iff_lt_mul h1.1]
   have : (u2 + 1) * 4294967296 ≤ v1 * 4294967296 := Nat.mul_le_mul_right _ (by omega)
   rw [Nat.mul_comm 4294967296 v1]
   omega
  have hr := Nat.mod_lt (u2 * 4294967296 + u1) h1.1
  have hW : u2 * 4294967296 + u1 = (u2 * 4294967296 + u1) / v1 * v1 + (u2 * 4294967296 + u1) % v1 := by rw [Nat.mul_comm ((u2 * 4294967296 + u1) / v1) v1]; exact (Nat.div_add_mod _ _).symm
  obtain ⟨m, hm, hmq, hev⟩ := guess_l0 u0 v1 v0 h0 h1 hv0 (u2 * 4294967296 + u1) ((u2 * 4294967296 + u1) / v1) ((u2 * 4294967296 + u1) % v1) hq (by omega) hW
  refine ⟨m, by omega, ?_, fun q h2 h3 => ?_, ?_⟩
  ·have : m * v1 ≤ (u2 * 4294967296 + u1) / v1 * v1 := Nat.mul_le_mul_right _ hm
   omega
  ·refine hmq q ?_ h3
   rw [Nat.le_div_iff_mul_le h1.1]
   have e5 : q * (v1 * 4294967296 + v0) = q * v1 * 4294967296 + q * v0 := by rw [Nat.mul_add, Nat.mul_assoc]
   rw [e5] at h3
   omega
  ·unfold nat_guess.f
   refine Ev.congr (f := fun k => (bits_Div32.f (u2 : Int) (u1 : Int) (v1 : Int)).bind fun bt514 => (nat_guess.l0 k (u0 : Int) (v1 : Int) (v0 : Int) (IntKind.u64.wrap (bt514.1)) (IntKind.u64.wrap (bt514.2)))) (fun k => by rw [if_neg (by omega)]) ?_
   have e1 : bits_Div32.f (u2 : Int) (u1 : Int) (v1 : Int) = some ((((u2 * 4294967296 + u1) / v1 : Nat) : Int), (((u2 * 4294967296 + u1) % v1 : Nat) : Int)) := by
    unfold bits_Div32.f
    rw [if_pos (by omega)]
    congr 2
   rw [e1]
   simp only [Option.bind_some]
   rw [u64_id (by omega) (by omega), u64_id (by omega) (by omega)]
   exact hev
end Go.Proofs.YtneepokiioefgaaGreatDoor.Pure
set_option maxHeartbeats 32000000
namespace Go.Proofs.YtneepokiioefgaaGreatDoor.Pure
open Go.RowKit PNat YtneepokiioefgaaGreatDoorW.PrintWords YtneepokiioefgaaGreatDoorW.PrintLast YtneepokiioefgaaGreatDoorW.PrintMore
theorem shl_val {x s : Nat} (hx : x < 4294967296) (hs : s ≤ 32) : shl .u64 (IntKind.u64.wrap (x : Int)) (s : Int) = ((x * 2 ^ s : Nat) : Int) := by
 have h1 : x * 2 ^ s ≤ 4294967295 * 2 ^ 32 := Nat.mul_le_mul (by omega) (Nat.pow_le_pow_right (by decide) hs)
 unfold shl
 rw [u64_id (x := (x : Int)) (by omega) (by omega), Int.toNat_natCast, Nat.min_eq_left (by show s ≤ 64; omega)]
 have e : (x : Int) * 2 ^ s = ((x * 2 ^ s : Nat) : Int) := by simp
 rw [e, u64_id (by omega) (by omega)]
theorem shr_val {x s : Nat} (hs : s ≤ 32) : shr .u64 (x : Int) (s : Int) = ((x / 2 ^ s : Nat) : Int) := by
 unfold shr
 rw [Int.toNat_natCast, Nat.min_eq_left (by show s ≤ 64; omega)]
 simp
theorem or_words {a b : Nat} (ha : a < 4294967296) (hb : b < 4294967296) : bits .or .u64 (IntKind.u64.wrap (IntKind.u64.wrap (a : Int) * 4294967296)) (IntKind.u64.wrap (b : Int)) = ((b + 4294967296 * a : Nat) : Int) := by
 rw [u64_id (x := (a : Int)) (by omega) (by omega), u64_id (x := (a : Int) * 4294967296) (by omega) (by omega), u64_id (x := (b : Int)) (by omega) (by omega), u64_or _ _ (by omega) (by omega) (by omega) (by omega), nat_join 32 _ _ (by omega) (by omega)]
 omega
theorem or_low {p w s : Nat} (hp : p < 2 ^ s) (hs : s ≤ 32) (hw : w % 2 ^ s = 0) : bits .or .u32 (p : Int) ((w : Int) % 4294967296) = ((p + w % 4294967296 : Nat) : Int) := by
 have h2 : (2 : Nat) ^ s ≤ 2 ^ 32 := Nat.pow_le_pow_right (by decide) hs
 have e : (w : Int) % 4294967296 = ((w % 4294967296 : Nat) : Int) := by omega
 have hm : w % 4294967296 % 2 ^ s = 0 := by
  have : (4294967296 : Nat) = 2 ^ s * 2 ^ (32 - s) := by rw [← Nat.pow_add, show s + (32 - s) = 32 by omega]
  rw [this, Nat.mod_mul_right_mod]
  exact hw
 rw [e, u32_or _ _ (by omega) (by omega) (by omega) (by omega), Int.toNat_natCast, Int.toNat_natCast, Nat.or_comm, nat_join s _ _ hm hp, Nat.add_comm]
theorem mv_step {x s p : Nat} (hx : x < 4294967296) (hs : s < 32) (hp : p < 2 ^ s) :
  ∃ lo hi : Nat, x * 2 ^ s = lo + 4294967296 * hi ∧ lo < 4294967296 ∧ hi < 2 ^ s ∧ p + lo < 4294967296 ∧ bits .or .u32 (p : Int) (shl .u64 (IntKind.u64.wrap (x : Int)) (s : Int) % 4294967296) = ((p + lo : Nat) : Int) ∧ shl .u64 (IntKind.u64.wrap (x : Int)) (s : Int) / 4294967296 % 4294967296 = (hi : Int) := by
 have hk : (4294967296 : Nat) = 2 ^ s * 2 ^ (32 - s) := by rw [← Nat.pow_add, show s + (32 - s) = 32 by omega]
 have hm : x * 2 ^ s % 4294967296 % 2 ^ s = 0 := by rw [hk, Nat.mod_mul_right_mod, Nat.mul_mod_left]
 have hor := or_low (w := x * 2 ^ s) hp (by omega) (Nat.mul_mod_left _ _)
 rw [shl_val hx (by omega)]
 have hxs : x * 2 ^ s < 4294967296 * 2 ^ s := Nat.mul_lt_mul_of_pos_right hx (Nat.two_pow_pos s)
 have hhi : x * 2 ^ s / 4294967296 < 2 ^ s := by rw [Nat.div_lt_iff_lt_mul (by decide), Nat.mul_comm (2 ^ s)]; exact hxs
 have hS : 2 ^ s ≤ 2 ^ 31 := Nat.pow_le_pow_right (by decide) (by omega)
 have hlo : p + x * 2 ^ s % 4294967296 < 4294967296 := by
  have hq := Nat.div_add_mod (x * 2 ^ s % 4294967296) (2 ^ s)
  rw [hm, Nat.add_zero] at hq
  have hlt : x * 2 ^ s % 4294967296 < 2 ^ s * 2 ^ (32 - s) := by rw [← hk]; exact Nat.mod_lt _ (by decide)
  rw [← hq] at hlt
  have h3 : x * 2 ^ s % 4294967296 / 2 ^ s + 1 ≤ 2 ^ (32 - s) := Nat.lt_of_mul_lt_mul_left hlt
  have h4 : 2 ^ s * (x * 2 ^ s % 4294967296 / 2 ^ s + 1) ≤ 2 ^ s * 2 ^ (32 - s) := Nat.mul_le_mul_left _ h3
  rw [Nat.mul_add, Nat.mul_one, hq, ← hk] at h4
  generalize x * 2 ^ s % 4294967296 = z at h4 ⊢
  generalize 2 ^ s = S at *
  omega
 refine ⟨x * 2 ^ s % 4294967296, x * 2 ^ s / 4294967296, (Nat.mod_add_div _ _).symm, Nat.mod_lt _ (by decide), hhi, hlo, hor, ?_⟩
 generalize 2 ^ s = S at *
 generalize x * S = z at *
 clear hm hk hor
 omega
theorem moved_l0 {t : List Int} (ok : Num.okW t) (ht : t.length ≤ 1000000) {s : Nat} (hs : s < 32) (d : Nat) : ∀ (i : Nat) (dn : List Int) (p : Nat), i + d = t.length → dn.length = i → Num.okW dn → p < 2 ^ s →
  Num.valN dn + 4294967296 ^ i * p = Num.valN (t.take i) * 2 ^ s →
  ∃ R : List Int, Num.okW R ∧ R.length = t.length + 1 ∧ Num.valN R = Num.valN t * 2 ^ s ∧ Ev (fun k => nat_moved.l0 k (s : Int) (dn ++ (p : Int) :: List.replicate d 0) t (t.length : Int) (i : Int)) R := by
 have h2 : (2 : Nat) ^ s ≤ 2147483648 := Nat.le_trans (Nat.pow_le_pow_right (by decide) (show s ≤ 31 by omega)) (by decide)
 induction d with
 | zero =>
  intro i dn p hi hd od hp hv
  have hp2 : p < 4294967296 := Nat.lt_of_lt_of_le hp (Nat.le_trans h2 (by decide))
  refine ⟨dn ++ [(p : Int)], Num.okW_snoc od (Int.natCast_nonneg _) (by clear hv hp h2; omega), by rw [List.length_append, hd]; simp; omega, ?_, ?_⟩
  ·rw [Num.val_snoc, hd, Int.toNat_natCast, hv, List.take_of_length_le (by omega)]
  ·refine Ev.step (f := fun _ => some (dn ++ [(p : Int)])) (fun k => ?_) (Ev.now _)
   simp only [nat_moved.l0]
   rw [if_neg (by omega), List.replicate_zero]
 | succ d ih =>
  intro i dn p hi hd od hp hv
  have ox := rd_ok ok i
  obtain ⟨x, hx⟩ := Int.eq_ofNat_of_zero_le ox.1
  have hx1 : x < 4294967296 := by clear hv hp h2; omega
  obtain ⟨lo, hh, e, hlo, hhi, hpl, hor, hshr⟩ := mv_step hx1 hs hp
  have Hor := md_ hor
  have Hshr := md_ hshr
  clear hor hshr
  have e1 : rd (dn ++ (p : Int) :: List.replicate (d + 1) 0) (i : Int) = (p : Int) := by
   rw [rd_getD, List.getD_eq_getElem?_getD, List.getElem?_append_right (by clear hv hp h2 e hhi; omega), hd, Nat.sub_self]
   rfl
  have e2 : ∀ a b : Int, ((dn ++ (p : Int) :: List.replicate (d + 1) 0).set i a).set (i + 1) b = (dn ++ [a]) ++ b :: List.replicate d 0 := by
   intro a b
   rw [← hd, List.set_append_right _ _ (Nat.le_refl _), Nat.sub_self, List.set_cons_zero, List.set_append_right _ _ (Nat.le_succ _), show dn.length + 1 - dn.length = 0 + 1 by omega, List.set_cons_succ, List.replicate_succ, List.set_cons_zero]
   simp
  have hi1 : i + 1 + d = t.length := by clear hv hp h2 e hhi; omega
  have hil : i < t.length := by clear hv hp h2 e hhi; omega
  obtain ⟨R, o, l, v, hev⟩ := ih (i + 1) (dn ++ [((p + lo : Nat) : Int)]) hh hi1 (by rw [List.length_append, hd]; rfl) (Num.okW_snoc od (Int.natCast_nonneg _) (by clear hv hp h2 e hhi; omega)) hhi (by
   rw [Num.val_snoc, hd, Int.toNat_natCast, Num.val_take_next, ← rd_toNat, hx, Int.toNat_natCast, Nat.pow_succ, Nat.add_mul, Nat.mul_assoc (4294967296 ^ i) x, e, ← hv]
   simp only [Nat.mul_add, ← Nat.mul_assoc]
   clear hv hp h2 e hhi hi hi1 hil
   omega)
  refine ⟨R, o, l, v, Ev.step (fun k => ?_) hev⟩
  clear hv hp h2 e hhi v
  have Ew := md_ (show wrap64 ((i : Int) + 1) = ((i + 1 : Nat) : Int) by rw [i64_id (by omega) (by omega)]; rfl)
  have hl : (dn ++ (p : Int) :: List.replicate (d + 1) 0).length = t.length + 1 := by rw [List.length_append, hd]; simp; omega
  simp only [nat_moved.l0]
  rw [if_pos (by omega), if_pos (by omega), if_pos (by omega), if_pos (by omega), Ew.out, if_pos (by omega), if_pos (by omega), if_pos (by omega), hx, Hshr.out, e1, Hor.out, Int.toNat_natCast, Int.toNat_natCast, e2]
theorem ev_moved (t : List Int) (ok : Num.okW t) (ht : t.length ≤ 1000000) (s : Nat) (hs : s < 32) :
  ∃ R : List Int, Num.okW R ∧ R.length = t.length + 1 ∧ Num.valN R = Num.valN t * 2 ^ s ∧ Ev (fun k => nat_moved.f k t (s : Int)) R := by
 obtain ⟨R, o, l, v, hev⟩ := moved_l0 ok ht hs t.length 0 [] 0 (by omega) rfl Num.okW_nil (Nat.two_pow_pos s) (by simp [Num.valN])
 refine ⟨R, o, l, v, ?_⟩
 unfold nat_moved.f
 refine Ev.congr (fun k => by rw [i64_id (show -9223372036854775808 ≤ (t.length : Int) + 1 by omega) (by omega), if_pos (by omega), if_pos (by omega), show ((t.length : Int) + 1).toNat = t.length + 1 by omega]) ?_
 exact hev
def rsW (s : Nat) : List Int → List Int
 | [] => []
 | x :: xs => (((x.toNat + 4294967296 * (xs.headD 0).toNat) / 2 ^ s % 4294967296 : Nat) : Int) :: rsW s xs
theorem rsW_len (s : Nat) (l : List Int) : (rsW s l).length = l.length := by
 induction l with
 | nil => rfl
 | cons x xs ih => simp [rsW, ih]
theorem rsW_ok (s : Nat) (l : List Int) : Num.okW (rsW s l) := by
 induction l with
 | nil => exact Num.okW_nil
 | cons x xs ih => exact Num.okW_cons.2 ⟨by omega, ih⟩
theorem head_mod (l : List Int) (ok : Num.okW l) : (l.headD 0).toNat = Num.valN l % 4294967296 := by
 cases l with
 | nil => rfl
 | cons x xs =>
  have h := (Num.okW_cons.1 ok).1
  simp only [List.headD_cons, Num.valN]
  omega
theorem rsW_val {s : Nat} (hs : s ≤ 32) (l : List Int) (ok : Num.okW l) : Num.valN (rsW s l) = Num.valN l / 2 ^ s := by
 induction l with
 | nil => simp [rsW, Num.valN]
 | cons x xs ih =>
  have hx := (Num.okW_cons.1 ok).1
  have oxs := (Num.okW_cons.1 ok).2
  simp only [rsW, Num.valN, Int.toNat_natCast, ih oxs, head_mod xs oxs]
  generalize Num.valN xs = v
  obtain ⟨X, rfl⟩ := Int.eq_ofNat_of_zero_le hx.1
  simp only [Int.toNat_natCast]
  have hk : (4294967296 : Nat) = 2 ^ s * 2 ^ (32 - s) := by rw [← Nat.pow_add, show s + (32 - s) = 32 by omega]
  have hp : 0 < 2 ^ s := Nat.two_pow_pos s
  have hv := Nat.div_add_mod v (2 ^ s)
  have ht := Nat.mod_lt v hp
  have hv2 : v % 4294967296 % 2 ^ s = v % 2 ^ s := by rw [hk, Nat.mod_mul_right_mod]
  have hw := Nat.div_add_mod (v % 4294967296) (2 ^ s)
  rw [hv2] at hw
  generalize v % 2 ^ s = t at *
  generalize v / 2 ^ s = z at *
  generalize v % 4294967296 / 2 ^ s = z' at *
  have a1 : (X + 4294967296 * v) / 2 ^ s = (X + 4294967296 * t) / 2 ^ s + 4294967296 * z := by
   have : X + 4294967296 * v = (X + 4294967296 * t) + 2 ^ s * (4294967296 * z) := by
    rw [← hv, Nat.mul_add, Nat.mul_left_comm]; omega
   rw [this, Nat.add_mul_div_left _ _ hp]
  have a2 : (X + 4294967296 * (v % 4294967296)) / 2 ^ s = (X + 4294967296 * t) / 2 ^ s + 4294967296 * z' := by
   have : X + 4294967296 * (v % 4294967296) = (X + 4294967296 * t) + 2 ^ s * (4294967296 * z') := by
    rw [← hw, Nat.mul_add, Nat.mul_left_comm]; omega
   rw [this, Nat.add_mul_div_left _ _ hp]
  have a3 : (X + 4294967296 * t) / 2 ^ s < 4294967296 := by
   rw [Nat.div_lt_iff_lt_mul hp]
   have : 4294967296 * (t + 1) ≤ 4294967296 * 2 ^ s := Nat.mul_le_mul_left _ ht
   omega
  rw [a1, a2, Nat.add_mul_mod_self_left, Nat.mod_eq_of_lt a3]
theorem rsW_get (s : Nat) (l : List Int) : ∀ i : Nat, i < l.length → (rsW s l).getD i 0 = (((rd l (i : Int)).toNat + 4294967296 * (rd l ((i + 1 : Nat) : Int)).toNat) / 2 ^ s % 4294967296 : Nat) := by
 induction l with
 | nil => intro i h; simp at h
 | cons x xs ih =>
  intro i h
  cases i with
  | zero =>
   rw [rd_getD, rd_getD]
   simp only [rsW, List.getD_cons_zero, List.getD_cons_succ]
   cases xs <;> rfl
  | succ i =>
   have := ih i (by simpa using h)
   rw [rd_getD, rd_getD] at this ⊢
   simp only [rsW, List.getD_cons_succ]
   exact this
theorem take_next {l : List Int} {i : Nat} (h : i < l.length) : l.take (i + 1) = l.take i ++ [l.getD i 0] := by
 rw [List.take_succ_eq_append_getElem h, List.getD_eq_getElem?_getD, List.getElem?_eq_getElem h]
 rfl
theorem val_take_of_lt {l : List Int} {n : Nat} (h : Num.valN l < 4294967296 ^ n) : Num.valN (l.take n) = Num.valN l := by
 rcases Nat.lt_or_ge n l.length with c | c
 ·have e : Num.valN l = Num.valN (l.take n) + 4294967296 ^ n * Num.valN (l.drop n) := by
   have h1 := Num.valN_append (l.take n) (l.drop n)
   rw [List.take_append_drop, List.length_take, Nat.min_eq_left (by omega)] at h1
   exact h1
  rcases Nat.eq_zero_or_pos (Num.valN (l.drop n)) with h0 | h0
  ·rw [h0] at e; omega
  ·have : 4294967296 ^ n * 1 ≤ 4294967296 ^ n * Num.valN (l.drop n) := Nat.mul_le_mul_left _ h0
   omega
 ·rw [List.take_of_length_le c]
theorem drop_words_val {l : List Int} (ok : Num.okW l) (q : Nat) : Num.valN (l.drop q) = Num.valN l / 4294967296 ^ q := by
 rcases Nat.lt_or_ge l.length q with c | c
 ·rw [List.drop_of_length_le (by omega), Nat.div_eq_of_lt]
  ·rfl
  ·exact Nat.lt_of_lt_of_le (Num.valN_lt ok) (Nat.pow_le_pow_right (by decide) (by omega))
 ·have h1 := Num.valN_append (l.take q) (l.drop q)
  rw [List.take_append_drop, List.length_take, Nat.min_eq_left c] at h1
  have h2 := Num.valN_lt (Num.okW_take ok q)
  rw [List.length_take, Nat.min_eq_left c] at h2
  rw [h1, Nat.add_mul_div_left _ _ (Nat.pow_pos (by decide)), Nat.div_eq_of_lt h2, Nat.zero_add]
theorem pow_words (q : Nat) : (4294967296 : Nat) ^ q = 2 ^ (32 * q) := by
 rw [Nat.pow_mul]
def fitV (v : Nat) : List Int × Int := if 2000 < (Num.wordsN v).length then ([], 2) else (Num.wordsN v, 0)
theorem fitsW_V {l : List Int} (ok : Num.okW l) : fitsW l = fitV (Num.valN l) := by
 unfold fitsW fitV
 rw [Num.trim_words ok]
theorem val_zeros (q : Nat) (l : List Int) : Num.valN (List.replicate q 0 ++ l) = 4294967296 ^ q * Num.valN l := by
 rw [Num.valN_append, List.length_replicate]
 have : Num.valN (List.replicate q 0) = 0 := by
  induction q with
  | zero => rfl
  | succ q ih => rw [List.replicate_succ]; simp [Num.valN, ih]
 rw [this, Nat.zero_add]
theorem okW_zeros (q : Nat) : Num.okW (List.replicate q 0) := by
 intro x hx
 rw [List.eq_of_mem_replicate hx]
 decide
theorem shift_left (l : List Int) (ok : Num.okW l) (hl : (Num.trimW l).length ≤ 2000) (hl' : l.length ≤ 1000000000) (m : Nat) (hm : m ≤ 64000) : Ev (fun k => nat_Shift.f k l (m : Int)) (fitV (Num.valN l * 2 ^ m)) := by
 unfold nat_Shift.f
 refine Ev.bind (ev_trim l hl') ?_
 have ht := Num.okW_trim ok
 have hid := Num.trimW_idem l
 rw [← Num.trimW_val l]
 generalize Num.trimW l = t at *
 have hlg := ev_large t (by omega)
 rw [hid] at hlg
 refine Ev.bind hlg ?_
 simp only [decide_eq_false (show ¬ 2000 < t.length by omega), Bool.false_eq_true, if_false, decide_eq_false (show ¬ (m : Int) > 64000 by omega)]
 have eq : Int.tdiv (m : Int) 32 = ((m / 32 : Nat) : Int) := rfl
 have er : Int.tmod (m : Int) 32 = ((m % 32 : Nat) : Int) := rfl
 have ew3 : wrap64 ((m / 32 : Nat) : Int) = ((m / 32 : Nat) : Int) := i64_id (by omega) (by omega)
 obtain ⟨R, o, hlen, v, hev⟩ := ev_moved t ht (by omega) (m % 32) (by omega)
 have hval : Num.valN (List.replicate (m / 32) 0 ++ R) = Num.valN t * 2 ^ m := by
  rw [val_zeros, v, pow_words, Nat.mul_left_comm, ← Nat.pow_add, show 32 * (m / 32) + m % 32 = m by omega]
 have ho : Num.okW (List.replicate (m / 32) 0 ++ R) := Num.okW_append.2 ⟨okW_zeros _, o⟩
 refine Ev.step (f := fun k => (nat_moved.f k t ((m % 32 : Nat) : Int)).bind fun t265 => (if (List.replicate (m / 32) (0 : Int)).length + t265.length < 35184372088832 then ((nat_fits.f k (List.replicate (m / 32) 0 ++ t265)).bind fun bt271 => (some (bt271.1, bt271.2))) else (none))) (fun k => ?_) ?_
 ·simp only [nat_Shift.j0, Bool.false_eq_true, if_false]
  rw [if_pos (by omega), eq, er, ew3, if_pos (by omega), if_pos (by omega), Option.bind_some, Int.toNat_natCast]
 ·refine Ev.bind hev ?_
  simp only [List.length_replicate, if_pos (show m / 32 + R.length < 35184372088832 by omega)]
  have := ev_fits (List.replicate (m / 32) 0 ++ R) (by simp only [List.length_append, List.length_replicate]; omega)
  rw [fitsW_V ho, hval] at this
  exact Ev.bind this (Ev.now _)
theorem digit_top {P u2 u1 u0 v1 v0 rU rV U V : Nat} (hU : U = rU + P * (u0 + 4294967296 * (u1 + 4294967296 * u2)))
  (hV : V = rV + P * (v0 + 4294967296 * v1)) (hrV : rV < P) (hv0 : v0 < 4294967296) (hlt : U < 4294967296 * V) : u2 ≤ v1 := by
 have hV1 : V < P * (4294967296 * (v1 + 1)) := by
  have : P * (v0 + 4294967296 * v1 + 1) ≤ P * (4294967296 * (v1 + 1)) := Nat.mul_le_mul_left _ (by omega)
  rw [Nat.mul_add P, Nat.mul_one] at this
  omega
 rcases Nat.lt_or_ge v1 u2 with h | h
 ·exfalso
  have h1 : P * (4294967296 * (4294967296 * (v1 + 1))) ≤ P * (u0 + 4294967296 * (u1 + 4294967296 * u2)) := Nat.mul_le_mul_left _ (by omega)
  have h2 : 4294967296 * V < 4294967296 * (P * (4294967296 * (v1 + 1))) := Nat.mul_lt_mul_of_pos_left hV1 (by decide)
  rw [Nat.mul_left_comm 4294967296 P] at h2
  omega
 ·exact h
theorem digit_bound {P u2 u1 u0 v1 v0 rU rV U V m : Nat} (hP : 0 < P) (hU : U = rU + P * (u0 + 4294967296 * (u1 + 4294967296 * u2))) (hrU : rU < P) (hu0 : u0 < 4294967296) (hu1 : u1 < 4294967296)
  (hV : V = rV + P * (v0 + 4294967296 * v1)) (hrV : rV < P) (hv0 : v0 < 4294967296) (hlt : U < 4294967296 * V) (hv1 : 0 < v1) (hm : m < 4294967296) (hmv : m * v1 ≤ u2 * 4294967296 + u1)
  (hq : ∀ q, q < 4294967296 → q * (v1 * 4294967296 + v0) ≤ (u2 * 4294967296 + u1) * 4294967296 + u0 → q ≤ m) :
  u2 ≤ v1 ∧ U / V ≤ m ∧ m * V ≤ U + P * 4294967296 * 4294967296 := by
 have hV0 : 0 < V := by
  have : P * 1 ≤ P * (v0 + 4294967296 * v1) := Nat.mul_le_mul_left _ (by omega)
  omega
 have hV1 : V < P * (4294967296 * (v1 + 1)) := by
  have : P * (v0 + 4294967296 * v1 + 1) ≤ P * (4294967296 * (v1 + 1)) := Nat.mul_le_mul_left _ (by omega)
  rw [Nat.mul_add P, Nat.mul_one] at this
  omega
 have h21 : u2 ≤ v1 := by
  rcases Nat.lt_or_ge v1 u2 with h | h
  ·exfalso
   have h1 : P * (4294967296 * (4294967296 * (v1 + 1))) ≤ P * (u0 + 4294967296 * (u1 + 4294967296 * u2)) := Nat.mul_le_mul_left _ (by omega)
   have h2 : 4294967296 * V < 4294967296 * (P * (4294967296 * (v1 + 1))) := Nat.mul_lt_mul_of_pos_left hV1 (by decide)
   rw [Nat.mul_left_comm 4294967296 P] at h2
   omega
  ·exact h
 refine ⟨h21, ?_, ?_⟩
 ·have hqlt : U / V < 4294967296 := by rw [Nat.div_lt_iff_lt_mul hV0]; exact hlt
  refine hq _ hqlt ?_
  have h1 : U / V * V ≤ U := Nat.div_mul_le_self U V
  generalize U / V = q at *
  have h2 : q * (P * (v0 + 4294967296 * v1)) ≤ q * V := Nat.mul_le_mul_left _ (by omega)
  have h3 : P * (q * (v0 + 4294967296 * v1)) < P * ((u2 * 4294967296 + u1) * 4294967296 + u0 + 1) := by
   rw [Nat.mul_left_comm] at h2
   have : U < P * ((u2 * 4294967296 + u1) * 4294967296 + u0 + 1) := by
    rw [Nat.mul_add P _ 1, Nat.mul_one, show (u2 * 4294967296 + u1) * 4294967296 + u0 = u0 + 4294967296 * (u1 + 4294967296 * u2) by omega]
    omega
   omega
  have h4 := Nat.lt_of_mul_lt_mul_left h3
  rw [show v1 * 4294967296 + v0 = v0 + 4294967296 * v1 by omega]
  omega
 ·have h1 : m * V ≤ m * (P * (4294967296 * (v1 + 1))) := Nat.mul_le_mul_left _ (Nat.le_of_lt hV1)
  have e : m * (P * (4294967296 * (v1 + 1))) = P * (4294967296 * (m * v1 + m)) := by
   rw [Nat.mul_left_comm m P, Nat.mul_left_comm m 4294967296, Nat.mul_add m, Nat.mul_one]
  have h2 : P * (4294967296 * (m * v1 + m)) ≤ P * (u0 + 4294967296 * (u1 + 4294967296 * u2) + 4294967296 * 4294967296) := Nat.mul_le_mul_left _ (by omega)
  rw [Nat.mul_add P _ (4294967296 * 4294967296)] at h2
  omega
theorem give_back {M Bn x x' d V U bo o : Nat} (hx : x + (d + 1) * V = U + M * bo) (hbo : bo ≤ 1) (hxM : x < M) (hU : U < (d + 1) * V) (hx' : x' + M * o = x + V) (hxM' : x' < M) (hV : V ≤ Bn) (hBn : 2 * Bn ≤ M) (hVpos : 0 < V) (hdV : (d + 1) * V ≤ U + Bn) :
  ∃ bo' : Nat, bo' ≤ 1 ∧ x' + d * V = U + M * bo' ∧ (bo' = 0 ↔ x' < Bn) ∧ (bo' = 0 ↔ d * V ≤ U) := by
 rw [Nat.add_mul, Nat.one_mul] at hx hU hdV
 generalize d * V = D at *
 have hb1 : bo = 1 := by
  rcases Nat.eq_zero_or_pos bo with h | h
  ·subst h; omega
  ·omega
 subst hb1
 rw [Nat.mul_one] at hx
 rcases Nat.lt_or_ge U D with h | h
 ·have ho : o = 0 := by
   rcases Nat.eq_zero_or_pos o with h0 | h0
   ·exact h0
   ·have : M * 1 ≤ M * o := Nat.mul_le_mul_left _ h0
    omega
  subst ho
  exact ⟨1, Nat.le_refl _, by omega, by omega, by omega⟩
 ·have ho : o = 1 := by
   rcases Nat.lt_or_ge o 1 with h0 | h0
   ·have : o = 0 := by omega
    subst this; omega
   ·rcases Nat.lt_or_ge 1 o with h1 | h1
    ·have : M * 2 ≤ M * o := Nat.mul_le_mul_left _ h1
     omega
    ·omega
  subst ho
  exact ⟨0, by decide, by omega, by omega, by omega⟩
theorem three {U : List Int} {j h : Nat} (h1 : j ≤ h) : U.take j ++ (U.take h).drop j ++ U.drop h = U := by
 have h3 : U.take j = (U.take h).take j := by rw [List.take_take, Nat.min_eq_left h1]
 rw [h3, List.take_append_drop, List.take_append_drop]
theorem three_val {L X T : List Int} : Num.valN (L ++ X ++ T) = Num.valN L + 4294967296 ^ L.length * Num.valN X + 4294967296 ^ (L.length + X.length) * Num.valN T := by
 rw [Num.valN_append, Num.valN_append, List.length_append]
theorem rd_part {L X T : List Int} {i : Nat} (h : i < X.length) : rd (L ++ X ++ T) ((L.length + i : Nat) : Int) = rd X (i : Int) := by
 rw [rd_getD, rd_getD, List.getD_eq_getElem?_getD, List.getD_eq_getElem?_getD, List.append_assoc, List.getElem?_append_right (by omega), Nat.add_sub_cancel_left, List.getElem?_append_left h]
theorem top_word {X : List Int} (ok : Num.okW X) {n : Nat} (h : X.length = n + 1) : Num.valN X = Num.valN (X.take n) + 4294967296 ^ n * (rd X (n : Int)).toNat ∧ Num.valN (X.take n) < 4294967296 ^ n := by
 constructor
 ·have := Num.val_take_next X n
  rw [List.take_of_length_le (l := X) (i := n + 1) (by omega), ← rd_toNat] at this
  exact this
 ·have := Num.valN_lt (Num.okW_take ok n)
  rw [List.length_take, Nat.min_eq_left (by omega)] at this
  exact this
theorem takeAt_ev {L X T V X' : List Int} {d n : Nat} {b : Bool} (hX : X.length = n + 1) (hl : L.length + n + 1 ≤ 100000000) (h : Ev (fun k => nat_take.f k X V (d : Int)) (b, X')) :
  Ev (fun k => nat_takeAt.f k (L ++ X ++ T) (L.length : Int) (n : Int) V (d : Int)) (b, L ++ X' ++ T) := by
 have e1 : wrap64 (wrap64 ((L.length : Int) + (n : Int)) + 1) = ((L.length + n + 1 : Nat) : Int) := by
  rw [i64_id (x := (L.length : Int) + (n : Int)) (by omega) (by omega), i64_id (by omega) (by omega)]; rfl
 have e2 : (L ++ X ++ T).take (L.length + n + 1) = L ++ X := List.take_left' (by rw [List.length_append]; omega)
 have e3 : (L ++ X ++ T).drop (L.length + n + 1) = T := List.drop_left' (by rw [List.length_append]; omega)
 have e4 : (L ++ X ++ T).take L.length = L := by rw [List.append_assoc]; exact List.take_left
 refine Ev.congr (f := fun k => (nat_take.f k X V (d : Int)).bind fun bt => some (bt.1, L ++ bt.2 ++ T)) (fun k => ?_) (Ev.bind h (Ev.now _))
 unfold nat_takeAt.f
 rw [e1, if_pos (by omega), if_pos (by omega), if_pos (by simp only [List.length_append]; omega), Int.toNat_natCast, Int.toNat_natCast, e2, e3, e4, List.drop_left]
theorem giveAt_ev {L X T V X' : List Int} {n : Nat} (hX : X.length = n + 1) (hl : L.length + n + 1 ≤ 100000000) (h : Ev (fun k => nat_give.f k X V) X') :
  Ev (fun k => nat_giveAt.f k (L ++ X ++ T) (L.length : Int) (n : Int) V) (L ++ X' ++ T) := by
 have e1 : wrap64 (wrap64 ((L.length : Int) + (n : Int)) + 1) = ((L.length + n + 1 : Nat) : Int) := by
  rw [i64_id (x := (L.length : Int) + (n : Int)) (by omega) (by omega), i64_id (by omega) (by omega)]; rfl
 have e2 : (L ++ X ++ T).take (L.length + n + 1) = L ++ X := List.take_left' (by rw [List.length_append]; omega)
 have e3 : (L ++ X ++ T).drop (L.length + n + 1) = T := List.drop_left' (by rw [List.length_append]; omega)
 have e4 : (L ++ X ++ T).take L.length = L := by rw [List.append_assoc]; exact List.take_left
 refine Ev.congr (f := fun k => (nat_give.f k X V).bind fun t => some (L ++ t ++ T)) (fun k => ?_) (Ev.bind h (Ev.now _))
 unfold nat_giveAt.f
 rw [e1, if_pos (by omega), if_pos (by omega), if_pos (by simp only [List.length_append]; omega), Int.toNat_natCast, Int.toNat_natCast, e2, e3, e4, List.drop_left]
theorem div_l1 {V L T Q : List Int} {by_ : Int} {n : Nat} (oV : Num.okW V) (hV : V.length = n) (hn : n ≤ 1000000) (hL : L.length ≤ 10000000) (hQ : L.length < Q.length) (hVpos : 0 < Num.valN V) (U q : Nat) (hqd : q = U / Num.valN V) (hqB : q < 4294967296)
  {R : List Int × List Int × Int} (K : ∀ X : List Int, Num.okW X → X.length = n + 1 → Num.valN X = U % Num.valN V → Ev (fun k => nat_Divide.l0 k (Q.set L.length (q : Int)) by_ (L ++ X ++ T) V (n : Int) ((L.length : Int) - 1)) R) (t : Nat) :
  ∀ (X : List Int) (bo : Nat), Num.okW X → X.length = n + 1 → q + t < 4294967296 → bo ≤ 1 → Num.valN X + (q + t) * Num.valN V = U + 4294967296 ^ (n + 1) * bo → (q + t) * Num.valN V ≤ U + 4294967296 ^ n →
   Ev (fun k => nat_Divide.l1 k Q by_ (L ++ X ++ T) V (n : Int) (L.length : Int) ((q + t : Nat) : Int) (decide (bo ≠ 0))) R := by
 have hdm := Nat.div_add_mod U (Num.valN V)
 have hml := Nat.mod_lt U hVpos
 rw [← hqd, Nat.mul_comm] at hdm
 have hVB : Num.valN V < 4294967296 ^ n := by have := Num.valN_lt oV; rw [hV] at this; exact this
 induction t with
 | zero =>
  intro X bo oX hX hB hbo hv hle
  rw [Nat.add_zero] at hv hle ⊢
  have hXB := Num.valN_lt oX
  rw [hX] at hXB
  have h0 : bo = 0 := by
   rcases Nat.eq_zero_or_pos bo with h | h
   ·exact h
   ·have : bo = 1 := by omega
    subst this
    omega
  subst h0
  have hv2 : Num.valN X = U % Num.valN V := by omega
  refine Ev.step (fun k => ?_) (K X oX hX hv2)
  simp only [nat_Divide.l1]
  rw [if_neg (by simp), if_pos (by omega), if_pos (by omega), Int.toNat_natCast, show ((q : Nat) : Int) % 4294967296 = (q : Int) by omega, i64_id (by omega) (by omega)]
 | succ t ih =>
  intro X bo oX hX hB hbo hv hle
  have hXB := Num.valN_lt oX
  rw [hX] at hXB
  have hUlt : U < (q + t + 1) * Num.valN V := by
   have : (q + 1) * Num.valN V ≤ (q + t + 1) * Num.valN V := Nat.mul_le_mul_right _ (by omega)
   rw [Nat.add_mul, Nat.one_mul] at this
   omega
  obtain ⟨X', oX', lX', ⟨o, hval⟩, hev⟩ := ev_give X V oX oV (by omega) (by omega)
  have hXB' := Num.valN_lt oX'
  rw [lX', hX] at hXB'
  rw [hX] at hval
  obtain ⟨bo', h1, h2, h3, h4⟩ := give_back (d := q + t) (M := 4294967296 ^ (n + 1)) (Bn := 4294967296 ^ n) (o := o) hv hbo hXB hUlt hval hXB' (Nat.le_of_lt hVB) (by rw [Nat.pow_succ]; omega) hVpos hle
  have hbo1 : bo ≠ 0 := by
   intro h
   subst h
   rw [← Nat.add_assoc] at hv
   omega
  have htop := top_word oX' (n := n) (by omega)
  have hrdp : rd (L ++ X' ++ T) ((L.length : Int) + (n : Int)) = rd X' (n : Int) := by
   have := rd_part (L := L) (X := X') (T := T) (i := n) (by omega)
   rw [← this]
   congr 1
  have orx := rd_ok oX' n
  have htoo : (rd X' (n : Int) != 0) = decide (bo' ≠ 0) := by
   have hz : rd X' (n : Int) = 0 ↔ Num.valN X' < 4294967296 ^ n := by
    constructor
    ·intro h
     rw [h] at htop
     have := htop.1
     simp only [Int.toNat_zero, Nat.mul_zero, Nat.add_zero] at this
     rw [this]
     exact htop.2
    ·intro h
     rcases Nat.eq_zero_or_pos (rd X' (n : Int)).toNat with h5 | h5
     ·omega
     ·have h6 : 4294967296 ^ n * 1 ≤ 4294967296 ^ n * (rd X' (n : Int)).toNat := Nat.mul_le_mul_left _ h5
      have := htop.1
      omega
   by_cases hb : bo' = 0
   ·rw [hz.2 (h3.1 hb), hb]; rfl
   ·have : ¬ rd X' (n : Int) = 0 := fun h => hb (h3.2 (hz.1 h))
    rw [bne_iff_ne.2 this, decide_eq_true hb]
  have hle' : (q + t) * Num.valN V ≤ U + 4294967296 ^ n := by
   have : (q + t) * Num.valN V ≤ (q + (t + 1)) * Num.valN V := Nat.mul_le_mul_right _ (by omega)
   omega
  have hrec := ih X' bo' oX' (by omega) (by omega) h1 h2 hle'
  have hg := giveAt_ev (L := L) (T := T) (n := n) hX (by omega) hev
  refine Ev.step (f := fun k => (nat_giveAt.f k (L ++ X ++ T) (L.length : Int) (n : Int) V).bind fun t581 => nat_Divide.l1 k Q by_ t581 V (n : Int) (L.length : Int) ((q + t : Nat) : Int) ((rd t581 ((L.length : Int) + (n : Int))) != 0)) (fun k => ?_) ?_
  ·simp only [nat_Divide.l1]
   rw [if_pos (by simpa using hbo1), i64_id (show -9223372036854775808 ≤ (L.length : Int) + (n : Int) by omega) (by omega)]
   have hlen : (L.length : Int) + (n : Int) < ((L ++ X ++ T).length : Int) := by simp only [List.length_append]; omega
   simp only [if_pos (show 0 ≤ (L.length : Int) + (n : Int) by omega), if_pos hlen]
   rw [show ((q + (t + 1) : Nat) : Int) - 1 = ((q + t : Nat) : Int) by omega, u64_id (by omega) (by omega)]
  ·refine Ev.bind hg ?_
   rw [hrdp, htoo]
   exact hrec
theorem part_lt {U : List Int} {j n : Nat} {v : Nat} (ok : Num.okW U) (hj : j + n + 1 ≤ U.length) (h : Num.valN (U.drop (j + 1)) < v) (hv : v ≤ 4294967296 ^ n) :
  Num.valN (U.drop (j + n + 1)) = 0 ∧ Num.valN ((U.take (j + n + 1)).drop j) < 4294967296 * v := by
 have e1 : U.drop (j + 1) = (U.drop (j + 1)).take n ++ (U.drop (j + 1)).drop n := (List.take_append_drop _ _).symm
 have l1 : ((U.drop (j + 1)).take n).length = n := by rw [List.length_take, List.length_drop]; omega
 have e2 : Num.valN (U.drop (j + 1)) = Num.valN ((U.drop (j + 1)).take n) + 4294967296 ^ n * Num.valN (U.drop (j + n + 1)) := by
  rw [e1, Num.valN_append, l1, ← e1, List.drop_drop, show j + 1 + n = j + n + 1 by omega]
 have h0 : Num.valN (U.drop (j + n + 1)) = 0 := by
  rcases Nat.eq_zero_or_pos (Num.valN (U.drop (j + n + 1))) with h0 | h0
  ·exact h0
  ·have : 4294967296 ^ n * 1 ≤ 4294967296 ^ n * Num.valN (U.drop (j + n + 1)) := Nat.mul_le_mul_left _ h0
   omega
 refine ⟨h0, ?_⟩
 have e3 : (U.take (j + n + 1)).drop j = rd U (j : Int) :: (U.drop (j + 1)).take n := by
  rw [List.drop_take, show j + n + 1 - j = n + 1 by omega, List.drop_eq_getElem_cons (by omega), List.take_succ_cons, rd_getD, List.getD_eq_getElem?_getD, List.getElem?_eq_getElem (by omega)]
  rfl
 have orx := rd_ok ok j
 rw [e3, Num.valN]
 rw [h0, Nat.mul_zero, Nat.add_zero] at e2
 omega
theorem val_zero_rep {Q : List Int} {j : Nat} {v : Int} (hj : j < Q.length) (h0 : rd Q (j : Int) = 0) (hv : 0 ≤ v) : Num.valN (Q.set j v) = Num.valN Q + 4294967296 ^ j * v.toNat := by
 have e1 : Q = Q.take j ++ 0 :: Q.drop (j + 1) := by
  have : (0 : Int) = Q[j] := by rw [← h0, rd_getD, List.getD_eq_getElem?_getD, List.getElem?_eq_getElem hj]; rfl
  rw [this, List.getElem_cons_drop, List.take_append_drop]
 have e2 : Q.set j v = Q.take j ++ v :: Q.drop (j + 1) := by
  rw [List.set_eq_take_append_cons_drop, if_pos hj]
 have lt : (Q.take j).length = j := by rw [List.length_take]; omega
 rw [e2]
 conv => rhs; rw [e1]
 rw [Num.valN_append, Num.valN_append, lt]
 simp only [Num.valN, Int.toNat_zero, Nat.zero_add, Nat.mul_add]
 omega
theorem divr_l2 {u : List Int} {q : List Int} (ok : Num.okW u) {s : Nat} (hs : s ≤ 32) {n : Nat} (hn : n ≤ 1000000) (hu : n + 1 ≤ u.length) (hul : u.length ≤ 100000000) (hlt : Num.valN u < 4294967296 ^ n) (oq : Num.okW q) (hq : q.length ≤ 100000000) (d : Nat) : ∀ i : Nat, i + d = n →
  Ev (fun k => nat_Divide.l2 k q ((rsW s u).take i ++ List.replicate d 0) (s : Int) u (n : Int) (i : Int)) (Num.wordsN (Num.valN q), Num.wordsN (Num.valN u / 2 ^ s), (0 : Int)) := by
 have hrl := rsW_len s u
 induction d with
 | zero =>
  intro i hi
  refine Ev.step (f := fun k => (nat_trim.f k q).bind fun t590 => ((nat_trim.f k ((rsW s u).take n)).bind fun t593 => (some (t590, t593, (0 : Int))))) (fun k => ?_) ?_
  ·simp only [nat_Divide.l2]
   rw [if_neg (by omega), List.replicate_zero, List.append_nil, show i = n by omega]
  ·refine Ev.bind (ev_trim q (by omega)) (Ev.bind (ev_trim _ (by rw [List.length_take]; omega)) ?_)
   rw [Num.trim_words oq, Num.trim_words (Num.okW_take (rsW_ok s u) n), val_take_of_lt (by rw [rsW_val hs u ok]; exact Nat.lt_of_le_of_lt (Nat.div_le_self _ _) hlt), rsW_val hs u ok]
   exact Ev.now _
 | succ d ih =>
  intro i hi
  have ox := rd_ok ok i
  have ox1 := rd_ok ok (i + 1)
  obtain ⟨a, ha⟩ := Int.eq_ofNat_of_zero_le ox.1
  obtain ⟨b, hb⟩ := Int.eq_ofNat_of_zero_le ox1.1
  have Ew := md_ (show wrap64 ((i : Int) + 1) = ((i + 1 : Nat) : Int) by rw [i64_id (by omega) (by omega)]; rfl)
  have hlt' : ((rsW s u).take i).length = i := by rw [List.length_take, rsW_len]; omega
  have hg := rsW_get s u i (by omega)
  rw [ha, hb, Int.toNat_natCast, Int.toNat_natCast] at hg
  have Hset := md_ (show ((rsW s u).take i ++ List.replicate (d + 1) 0).set i ((rsW s u).getD i 0) = (rsW s u).take (i + 1) ++ List.replicate d 0 by
   have := set_next ((rsW s u).take i) d ((rsW s u).getD i 0)
   rw [hlt'] at this
   rw [this, take_next (by rw [rsW_len]; omega)])
  have hl : ((rsW s u).take i ++ List.replicate (d + 1) 0).length = n := by rw [List.length_append, hlt', List.length_replicate]; omega
  have Hval := md_ (show (((a + 4294967296 * b) / 2 ^ s : Nat) : Int) % 4294967296 = (rsW s u).getD i 0 by rw [hg]; generalize (a + 4294967296 * b) / 2 ^ s = z; omega)
  clear hg hlt
  refine Ev.step (fun k => ?_) (ih (i + 1) (by omega))
  simp only [nat_Divide.l2]
  rw [if_pos (by omega), Ew.out, if_pos (by omega), if_pos (by omega), if_pos (by omega), if_pos (by omega), if_pos (by omega), if_pos (by omega), ha, hb, or_words (by omega) (by omega), shr_val hs, Hval.out, Int.toNat_natCast, Hset.out]
theorem div_l0 {V : List Int} {n s : Nat} (oV : Num.okW V) (hV : V.length = n + 2) (hn : n ≤ 100000) (hs : s ≤ 32) (hv1 : 0 < rd V ((n + 1 : Nat) : Int)) (qn : Nat) (hqn : qn ≤ 1000000) (A : Nat) (m : Nat) :
  ∀ (Q U : List Int), m ≤ qn → Q.length = qn → U.length = n + 2 + qn → Num.okW Q → Num.okW U → 0 < qn →
   Num.valN Q * Num.valN V + Num.valN U = A → (∀ i : Nat, i < m → rd Q (i : Int) = 0) → Num.valN (U.drop m) < Num.valN V →
   Ev (fun k => nat_Divide.l0 k Q (s : Int) U V ((n + 2 : Nat) : Int) ((m : Int) - 1)) (Num.wordsN (A / Num.valN V), Num.wordsN (A % Num.valN V / 2 ^ s), (0 : Int)) := by
 have hVB : Num.valN V < 4294967296 ^ (n + 2) := by have := Num.valN_lt oV; rw [hV] at this; exact this
 have orv1 := rd_ok oV (n + 1)
 have orv0 := rd_ok oV n
 obtain ⟨v1, hv1e⟩ := Int.eq_ofNat_of_zero_le orv1.1
 obtain ⟨v0, hv0e⟩ := Int.eq_ofNat_of_zero_le orv0.1
 have topV1 := top_word oV (n := n + 1) (by omega)
 have nextV : Num.valN (V.take (n + 1)) = Num.valN (V.take n) + 4294967296 ^ n * v0 := by
  have := Num.val_take_next V n
  rw [← rd_toNat, hv0e, Int.toNat_natCast] at this
  exact this
 have rV : Num.valN (V.take n) < 4294967296 ^ n := by
  have := Num.valN_lt (Num.okW_take oV n)
  rw [List.length_take, Nat.min_eq_left (by omega)] at this
  exact this
 have hVdec : Num.valN V = Num.valN (V.take n) + 4294967296 ^ n * (v0 + 4294967296 * v1) := by
  rw [topV1.1, nextV, hv1e, Int.toNat_natCast, Nat.pow_succ, Nat.mul_add, ← Nat.mul_assoc]
  omega
 have hVpos : 0 < Num.valN V := by
  rw [hVdec]
  have h1 : 4294967296 ^ n * 1 ≤ 4294967296 ^ n * (v0 + 4294967296 * v1) := Nat.mul_le_mul_left _ (by omega)
  have h2 : 0 < 4294967296 ^ n := Nat.pow_pos (by decide)
  omega
 have hv1' : 0 < v1 ∧ v1 < 4294967296 := by omega
 have hv0' : v0 < 4294967296 := by omega
 clear topV1 nextV
 induction m with
 | zero =>
  intro Q U _ hQ hU oQ oU hq0 hA _ hlt
  rw [List.drop_zero] at hlt
  have e1 : A / Num.valN V = Num.valN Q := by
   rw [← hA, Nat.add_comm, Nat.add_mul_div_right _ _ hVpos, Nat.div_eq_of_lt hlt, Nat.zero_add]
  have e2 : A % Num.valN V = Num.valN U := by
   rw [← hA, Nat.add_comm, Nat.add_mul_mod_self_right, Nat.mod_eq_of_lt hlt]
  rw [e1, e2]
  have h := divr_l2 oU hs (n := n + 2) (by omega) (by omega) (by omega) (Nat.lt_trans hlt hVB) oQ (by omega) (n + 2) 0 (by omega)
  refine Ev.step (fun k => ?_) h
  simp only [nat_Divide.l0]
  rw [if_neg (by omega), if_pos (by omega), if_pos (by omega), Option.bind_some, Int.toNat_natCast, List.length_replicate, List.take_zero, List.nil_append]
  rfl
 | succ j ih =>
  intro Q U hm hQ hU oQ oU hq0 hA hz hlt
  obtain ⟨hT0, hXlt⟩ := part_lt oU (j := j) (n := n + 2) (by omega) hlt (Nat.le_of_lt hVB)
  have hUe := three (U := U) (j := j) (h := j + (n + 2) + 1) (by omega)
  have oX : Num.okW ((U.take (j + (n + 2) + 1)).drop j) := Num.okW_drop (Num.okW_take oU _) _
  have lX : ((U.take (j + (n + 2) + 1)).drop j).length = n + 2 + 1 := by rw [List.length_drop, List.length_take]; omega
  have lL : (U.take j).length = j := by rw [List.length_take]; omega
  have oL : Num.okW (U.take j) := Num.okW_take oU _
  have oT : Num.okW (U.drop (j + (n + 2) + 1)) := Num.okW_drop oU _
  have lT : (U.drop (j + (n + 2) + 1)).length = qn - j - 1 := by rw [List.length_drop]; omega
  generalize U.drop (j + (n + 2) + 1) = T at *
  generalize (U.take (j + (n + 2) + 1)).drop j = X at *
  generalize U.take j = L at *
  subst hUe
  have r2 := rd_ok oX (n + 2)
  have r1 := rd_ok oX (n + 1)
  have r0 := rd_ok oX n
  obtain ⟨u2, hu2⟩ := Int.eq_ofNat_of_zero_le r2.1
  obtain ⟨u1, hu1⟩ := Int.eq_ofNat_of_zero_le r1.1
  obtain ⟨u0, hu0⟩ := Int.eq_ofNat_of_zero_le r0.1
  have hu2' : u2 < 4294967296 := by omega
  have hu1' : u1 < 4294967296 := by omega
  have hu0' : u0 < 4294967296 := by omega
  have rX : Num.valN (X.take n) < 4294967296 ^ n := by
   have := Num.valN_lt (Num.okW_take oX n)
   rw [List.length_take, Nat.min_eq_left (by omega)] at this
   exact this
  have hXdec : Num.valN X = Num.valN (X.take n) + 4294967296 ^ n * (u0 + 4294967296 * (u1 + 4294967296 * u2)) := by
   have a1 := (top_word oX (n := n + 2) (by omega)).1
   have a2 := Num.val_take_next X (n + 1)
   have a3 := Num.val_take_next X n
   rw [← rd_toNat, hu1, Int.toNat_natCast] at a2
   rw [← rd_toNat, hu0, Int.toNat_natCast] at a3
   rw [a1, a2, a3, hu2, Int.toNat_natCast]
   clear a1 a2 a3
   simp only [Nat.pow_succ, Nat.mul_add, ← Nat.mul_assoc]
   omega
  have hm21 := digit_top hXdec hVdec rV hv0' hXlt
  obtain ⟨m, hmB, hmv, hmq, hgev⟩ := ev_guess u2 u1 u0 v1 v0 hu2' hu1' hu0' hv1' hv0' hm21
  obtain ⟨_, hqm, hmV⟩ := digit_bound (Nat.pow_pos (by decide)) hXdec rX hu0' hu1' hVdec rV hv0' hXlt hv1'.1 hmB hmv hmq
  have hmV' : m * Num.valN V ≤ Num.valN X + 4294967296 ^ (n + 2) := by
   rw [Nat.pow_succ, Nat.pow_succ]; exact hmV
  obtain ⟨X', oX', lX', bo, hbo, hval, htev⟩ := ev_take X V oX oV m hmB (by omega) (by omega)
  rw [lX] at hval
  have hdm := Nat.div_add_mod (Num.valN X) (Num.valN V)
  have hml := Nat.mod_lt (Num.valN X) hVpos
  obtain ⟨q, hq⟩ : ∃ q, q = Num.valN X / Num.valN V := ⟨_, rfl⟩
  rw [← hq] at hqm hdm
  obtain ⟨t, ht⟩ : ∃ t, m = q + t := ⟨m - q, by omega⟩
  have hA0 : rd Q (j : Int) = 0 := hz j (by omega)
  have hcont : ∀ X2 : List Int, Num.okW X2 → X2.length = n + 2 + 1 → Num.valN X2 = Num.valN X % Num.valN V → Ev (fun k => nat_Divide.l0 k (Q.set L.length (q : Int)) (s : Int) (L ++ X2 ++ T) V ((n + 2 : Nat) : Int) ((L.length : Int) - 1)) (Num.wordsN (A / Num.valN V), Num.wordsN (A % Num.valN V / 2 ^ s), (0 : Int)) := by
   intro X2 oX2 lX2 hX2
   rw [lL]
   refine ih (Q.set j (q : Int)) (L ++ X2 ++ T) (by omega) (by rw [List.length_set]; exact hQ) (by simp only [List.length_append] at hU ⊢; omega) ?_ ?_ hq0 ?_ ?_ ?_
   ·intro z hz2
    rcases List.mem_or_eq_of_mem_set hz2 with h | h
    ·exact oQ z h
    ·rw [h]; clear hval hdm hml hmV hmV' hA hlt hXlt; omega
   ·exact Num.okW_append.2 ⟨Num.okW_append.2 ⟨oL, oX2⟩, oT⟩
   ·rw [val_zero_rep (by omega) hA0 (Int.natCast_nonneg _), Int.toNat_natCast, three_val, hX2, lX2, lL, hT0, Nat.mul_zero, Nat.add_zero]
    rw [three_val, lX, lL, hT0, Nat.mul_zero, Nat.add_zero] at hA
    rw [Nat.add_mul, ← hA]
    have e5 : 4294967296 ^ j * q * Num.valN V + 4294967296 ^ j * (Num.valN X % Num.valN V) = 4294967296 ^ j * Num.valN X := by
     rw [Nat.mul_assoc, ← Nat.mul_add, Nat.mul_comm q, hdm]
    omega
   ·intro i hi
    have : rd (Q.set j (q : Int)) (i : Int) = rd Q (i : Int) := by
     rw [rd_getD, rd_getD, List.getD_eq_getElem?_getD, List.getD_eq_getElem?_getD, List.getElem?_set_ne (by omega)]
    rw [this]
    exact hz i (by omega)
   ·rw [List.append_assoc, List.drop_left' lL, Num.valN_append, hT0, Nat.mul_zero, Nat.add_zero, hX2]
    exact hml
  have hin := div_l1 (V := V) (L := L) (T := T) (Q := Q) (by_ := (s : Int)) (n := n + 2) oV hV (by omega) (by omega) (by omega) hVpos (Num.valN X) q hq (by omega) hcont t X' bo oX' (by omega) (by omega) hbo (by rw [← ht]; exact hval) (by rw [← ht]; exact hmV')
  rw [← ht] at hin
  have htk := takeAt_ev (L := L) (T := T) (n := n + 2) lX (by omega) htev
  have p2 : rd (L ++ X ++ T) ((j + (n + 2) : Nat) : Int) = (u2 : Int) := by
   have := rd_part (L := L) (X := X) (T := T) (i := n + 2) (by omega)
   rw [lL] at this
   rw [this, hu2]
  have p1 : rd (L ++ X ++ T) ((j + (n + 1) : Nat) : Int) = (u1 : Int) := by
   have := rd_part (L := L) (X := X) (T := T) (i := n + 1) (by omega)
   rw [lL] at this
   rw [this, hu1]
  have p0 : rd (L ++ X ++ T) ((j + n : Nat) : Int) = (u0 : Int) := by
   have := rd_part (L := L) (X := X) (T := T) (i := n) (by omega)
   rw [lL] at this
   rw [this, hu0]
  refine Ev.step (f := fun k => (nat_guess.f k (u2 : Int) (u1 : Int) (u0 : Int) (v1 : Int) (v0 : Int)).bind fun t578 => ((nat_takeAt.f k (L ++ X ++ T) (j : Int) ((n + 2 : Nat) : Int) V t578).bind fun bt579 => (nat_Divide.l1 k Q (s : Int) bt579.2 V ((n + 2 : Nat) : Int) (j : Int) t578 bt579.1))) (fun k => ?_) ?_
  ·clear hin hcont ih hval hdm hml hmV hmV' hA hlt hXlt hXdec hVdec rX rV hVB hVpos hq hqm hmq hmv
   have hlen : (L ++ X ++ T).length = n + 2 + qn := hU
   have w0 := md_ (show wrap64 (((j + 1 : Nat) : Int) - 1 + ((n + 2 : Nat) : Int)) = ((j + (n + 2) : Nat) : Int) by rw [i64_id (by omega) (by omega)]; omega)
   have w1 := md_ (show wrap64 (((j + (n + 2) : Nat) : Int) - 1) = ((j + (n + 1) : Nat) : Int) by rw [i64_id (by omega) (by omega)]; omega)
   have w2 := md_ (show wrap64 (((j + (n + 2) : Nat) : Int) - 2) = ((j + n : Nat) : Int) by rw [i64_id (by omega) (by omega)]; omega)
   have w3 := md_ (show wrap64 (((n + 2 : Nat) : Int) - 1) = ((n + 1 : Nat) : Int) by rw [i64_id (by omega) (by omega)]; omega)
   have w4 := md_ (show wrap64 (((n + 2 : Nat) : Int) - 2) = (n : Int) by rw [i64_id (by omega) (by omega)]; omega)
   simp only [nat_Divide.l0]
   rw [if_pos (by omega), w0.out, if_pos (by omega), if_pos (by omega), w1.out, if_pos (by omega), if_pos (by omega), w2.out, if_pos (by omega), if_pos (by omega), w3.out, if_pos (by omega), if_pos (by omega), w4.out, if_pos (by omega), if_pos (by omega), p2, p1, p0, hv1e, hv0e]
   rw [show ((j + 1 : Nat) : Int) - 1 = (j : Int) by omega]
  ·refine Ev.bind hgev ?_
   rw [lL] at htk hin
   refine Ev.bind htk ?_
   exact hin
def divW (a b : Nat) : List Int × List Int × Int := if 2000 < (Num.wordsN a).length ∨ 2000 < (Num.wordsN b).length then ([], [], 2) else if b = 0 then ([], [], 1) else (Num.wordsN (a / b), Num.wordsN (a % b), 0)
theorem ev_some {α β : Type} {o : Option α} {x : α} {g : Nat → α → Option β} {r : β} (h : o = some x) (e : Ev (fun k => g k x) r) : Ev (fun k => o.bind (g k)) r := by
 subst h
 exact e
theorem div_main {t0 t1 : List Int} (o0 : Num.okW t0) (o1 : Num.okW t1) (n0 : Num.normed t0) (n1 : Num.normed t1) (h0 : t0.length ≤ 2000) (h1 : t1.length ≤ 2000) (h2 : 2 ≤ t1.length) (hle : Num.valN t1 ≤ Num.valN t0) {b : Int} (hb : b = rd t1 ((t1.length : Int) - 1)) :
  Ev (fun k => (bits_LeadingZeros32.f b).bind fun t559 => ((nat_moved.f k t0 t559).bind fun t560 => ((nat_moved.f k t1 t559).bind fun t563 => (if 0 ≤ (t1.length : Int) then (if (t1.length : Int) ≤ (t563.length : Int) then ((some (t563.take ((t1.length : Int) : Int).toNat : List Int)).bind fun y566 => (if 0 ≤ (wrap64 ((wrap64 ((t0.length : Int) - (y566.length : Int))) + 1)) then (if (wrap64 ((wrap64 ((t0.length : Int) - (y566.length : Int))) + 1) : Int).toNat ≤ 70368744177664 then ((some (List.replicate (wrap64 ((wrap64 ((t0.length : Int) - (y566.length : Int))) + 1) : Int).toNat 0 : List Int)).bind fun y570 => (nat_Divide.l0 k y570 t559 t560 y566 (y566.length : Int) (wrap64 ((y570.length : Int) - 1)))) else (none)) else (none))) else (none)) else (none)))))
   (Num.wordsN (Num.valN t0 / Num.valN t1), Num.wordsN (Num.valN t0 % Num.valN t1), (0 : Int)) := by
 obtain ⟨n, hn⟩ : ∃ n, t1.length = n + 2 := ⟨t1.length - 2, by omega⟩
 have hl10 : t1.length ≤ t0.length := by
  rcases Nat.lt_or_ge t0.length t1.length with h | h
  ·have := Num.lt_of_len o0 o1 n1 h; omega
  ·exact h
 have otop := rd_ok o1 (n + 1)
 have hb2 : b = rd t1 ((n + 1 : Nat) : Int) := by rw [hb]; congr 1; omega
 have hw := Num.bitsN_words o1 n1 (n + 1) hn
 rw [← rd_toNat] at hw
 have hbv := Num.bitsN_lt (Num.valN t1)
 have hge := Num.val_ge o1 n1 (n + 1) hn
 have hvp : 0 < Num.valN t1 := Nat.lt_of_lt_of_le (Nat.pow_pos (by decide)) hge
 have htop1 : Num.bitsN (rd t1 ((n + 1 : Nat) : Int)).toNat ≤ 32 := by
  have e1 := Num.bitsN_mono (show (rd t1 ((n + 1 : Nat) : Int)).toNat ≤ 4294967295 by omega)
  have e2 : Num.bitsN 4294967295 = 32 := Num.bitsN_eq (by decide) (by decide)
  omega
 have htop0 : 0 < Num.bitsN (rd t1 ((n + 1 : Nat) : Int)).toNat := by
  rcases Nat.eq_zero_or_pos (rd t1 ((n + 1 : Nat) : Int)).toNat with h | h
  ·exfalso
   have tw := top_word o1 (n := n + 1) (by omega)
   rw [h, Nat.mul_zero, Nat.add_zero] at tw
   omega
  ·exact Num.bitsN_pos h
 have hlz : bits_LeadingZeros32.f b = some ((32 - Num.bitsN (rd t1 ((n + 1 : Nat) : Int)).toNat : Nat) : Int) := by
  unfold bits_LeadingZeros32.f
  rw [hb2, if_pos (by omega), Num.bitLen_bitsN (by omega)]
  congr 1
  omega
 obtain ⟨s, hs⟩ : ∃ s, s = 32 - Num.bitsN (rd t1 ((n + 1 : Nat) : Int)).toNat := ⟨_, rfl⟩
 rw [← hs] at hlz
 have hs1 : s < 32 := by omega
 have hbits : Num.bitsN (Num.valN t1) + s = 32 * (n + 2) := by omega
 obtain ⟨U, oU, lU, vU, evU⟩ := ev_moved t0 o0 (by omega) s hs1
 obtain ⟨V1, oV1, lV1, vV1, evV⟩ := ev_moved t1 o1 (by omega) s hs1
 have hVlt : Num.valN V1 < 4294967296 ^ (n + 2) := by
  rw [vV1, pow_words, ← hbits, Nat.pow_add]
  exact Nat.mul_lt_mul_of_pos_right hbv (Nat.two_pow_pos s)
 have lV : (V1.take (n + 2)).length = n + 2 := by rw [List.length_take]; omega
 have vV : Num.valN (V1.take (n + 2)) = Num.valN t1 * 2 ^ s := by rw [val_take_of_lt hVlt, vV1]
 have oV := Num.okW_take oV1 (n + 2)
 obtain ⟨V, hVd⟩ : ∃ V, V = V1.take (n + 2) := ⟨_, rfl⟩
 rw [← hVd] at lV vV oV
 have hvtop : 0 < rd V ((n + 1 : Nat) : Int) := by
  have tw := top_word oV (n := n + 1) (by omega)
  have o := rd_ok oV (n + 1)
  rcases Nat.eq_zero_or_pos (rd V ((n + 1 : Nat) : Int)).toNat with h | h
  ·exfalso
   rw [h, Nat.mul_zero, Nat.add_zero, vV] at tw
   have : Num.valN t1 * 1 ≤ Num.valN t1 * 2 ^ s := Nat.mul_le_mul_left _ (Nat.two_pow_pos s)
   omega
  ·omega
 have hUd : Num.valN (U.drop (t0.length - (n + 2) + 1)) < Num.valN V := by
  rw [drop_words_val oU, vU, vV]
  have h3 : Num.valN t0 < 4294967296 ^ t0.length := Num.valN_lt o0
  rw [Nat.div_lt_iff_lt_mul (Nat.pow_pos (by decide))]
  have h4 : Num.valN t0 * 2 ^ s < 4294967296 ^ t0.length * 2 ^ s := Nat.mul_lt_mul_of_pos_right h3 (Nat.two_pow_pos s)
  have h5 : 4294967296 ^ t0.length = 4294967296 ^ (n + 1) * 4294967296 ^ (t0.length - (n + 2) + 1) := by rw [← Nat.pow_add]; congr 1; omega
  have h6 : 4294967296 ^ (n + 1) * (2 ^ s * 4294967296 ^ (t0.length - (n + 2) + 1)) ≤ Num.valN t1 * (2 ^ s * 4294967296 ^ (t0.length - (n + 2) + 1)) := Nat.mul_le_mul_right _ hge
  rw [h5] at h4
  rw [Nat.mul_assoc (Num.valN t1)]
  rw [Nat.mul_assoc, Nat.mul_comm (4294967296 ^ (t0.length - (n + 2) + 1)) (2 ^ s)] at h4
  exact Nat.lt_of_lt_of_le h4 h6
 have hmain := div_l0 oV lV (by omega) (s := s) (by omega) hvtop (t0.length - (n + 2) + 1) (by omega) (Num.valN t0 * 2 ^ s) (t0.length - (n + 2) + 1) (List.replicate (t0.length - (n + 2) + 1) 0) U (Nat.le_refl _) (List.length_replicate ..) (by omega) (okW_zeros _) oU (by omega) (by
   have : Num.valN (List.replicate (t0.length - (n + 2) + 1) 0) = 0 := by
    have := val_zeros (t0.length - (n + 2) + 1) []
    simpa [Num.valN] using this
   rw [this, Nat.zero_mul, Nat.zero_add, vU]) (fun i hi => by rw [rd_getD, List.getD_eq_getElem?_getD, List.getElem?_replicate, if_pos hi]; rfl) hUd
 rw [vV, Nat.mul_div_mul_right _ _ (Nat.two_pow_pos s), Nat.mul_mod_mul_right, Nat.mul_div_cancel _ (Nat.two_pow_pos s)] at hmain
 refine ev_some hlz (Ev.bind evU (Ev.bind evV ?_))
 have w0 := md_ (show wrap64 ((t0.length : Int) - ((n + 2 : Nat) : Int)) = ((t0.length - (n + 2) : Nat) : Int) by rw [i64_id (by omega) (by omega)]; omega)
 have w1 := md_ (show wrap64 (((t0.length - (n + 2) : Nat) : Int) + 1) = ((t0.length - (n + 2) + 1 : Nat) : Int) by rw [i64_id (by omega) (by omega)]; omega)
 have w2 := md_ (show wrap64 (((t0.length - (n + 2) + 1 : Nat) : Int) - 1) = ((t0.length - (n + 2) + 1 : Nat) : Int) - 1 from i64_id (by omega) (by omega))
 have c1 : 0 ≤ (t1.length : Int) := by omega
 have c2 : (t1.length : Int) ≤ (V1.length : Int) := by omega
 have c3 : ((t1.length : Int) : Int).toNat = n + 2 := by omega
 have c4 : 0 ≤ ((t0.length - (n + 2) + 1 : Nat) : Int) := by omega
 have c5 : t0.length - (n + 2) + 1 ≤ 70368744177664 := by omega
 refine Ev.congr (fun k => ?_) hmain
 rw [if_pos c1, if_pos c2, c3, ← hVd, Option.bind_some, lV, w0.out, w1.out, if_pos c4, Int.toNat_natCast, if_pos c5, Option.bind_some, List.length_replicate, w2.out]
theorem ev_div (l0 l1 : List Int) (o0 : Num.okW l0) (o1 : Num.okW l1) (h0 : l0.length ≤ 100000000) (h1 : l1.length ≤ 100000000) : Ev (fun k => nat_Divide.f k l0 l1) (divW (Num.valN l0) (Num.valN l1)) := by
 have e0 := Num.trim_words o0
 have e1 := Num.trim_words o1
 have ht0 := Num.okW_trim o0
 have ht1 := Num.okW_trim o1
 unfold nat_Divide.f divW
 rw [← e0, ← e1]
 refine Ev.bind (ev_large l0 (by omega)) ?_
 have big : Ev (fun k => nat_Divide.j0 k l0 l1 true) (([] : List Int), ([] : List Int), (2 : Int)) := by
  refine Ev.step (f := fun _ => some (([] : List Int), ([] : List Int), (2 : Int))) (fun k => ?_) (Ev.now _)
  simp only [nat_Divide.j0, if_true]
 by_cases c0 : 2000 < (Num.trimW l0).length
 ·simp only [decide_eq_true c0, if_true, if_pos (show 2000 < (Num.trimW l0).length ∨ 2000 < (Num.trimW l1).length from .inl c0)]
  exact big
 ·simp only [decide_eq_false c0, Bool.false_eq_true, if_false]
  refine Ev.bind (ev_large l1 (by omega)) ?_
  by_cases c1 : 2000 < (Num.trimW l1).length
  ·simp only [decide_eq_true c1, if_pos (show 2000 < (Num.trimW l0).length ∨ 2000 < (Num.trimW l1).length from .inr c1)]
   exact big
  ·rw [if_neg (show ¬ (2000 < (Num.trimW l0).length ∨ 2000 < (Num.trimW l1).length) by omega)]
   simp only [decide_eq_false c1]
   refine Ev.step (fun k => by simp only [nat_Divide.j0, Bool.false_eq_true, if_false]; rfl) ?_
   refine Ev.bind (ev_trim l0 (by omega)) (Ev.bind (ev_trim l1 (by omega)) ?_)
   have n0 := Num.normed_trim l0
   have n1 := Num.normed_trim l1
   rw [← Num.trimW_val l0, ← Num.trimW_val l1]
   clear e0 e1 h0 h1
   generalize Num.trimW l0 = t0 at *
   generalize Num.trimW l1 = t1 at *
   by_cases z : t1.length = 0
   ·have : t1 = [] := List.length_eq_zero_iff.1 z
    subst this
    refine Ev.congr (f := fun _ => some (([] : List Int), ([] : List Int), (1 : Int))) (fun k => by rw [if_pos (by simp)]) ?_
    rw [if_pos (show Num.valN [] = 0 from rfl)]
    exact Ev.now _
   ·have hv : 0 < Num.valN t1 := Num.val_pos ht1 n1 (by intro h; rw [h] at z; exact z rfl)
    rw [if_neg (show ¬ Num.valN t1 = 0 by omega)]
    refine Ev.congr (f := fun k => (nat_Compare.f k t0 t1).bind fun t540 => _) (fun k => by rw [if_neg (by omega)]) ?_
    refine Ev.bind (ev_cmp t0 t1 ht0 ht1 (by omega) (by omega)) ?_
    by_cases lt : Num.valN t0 < Num.valN t1
    ·refine Ev.congr (f := fun _ => some (([] : List Int), t0, (0 : Int))) (fun k => ?_) ?_
     ·rw [if_pos (Num.cmpN_neg.2 lt)]
      simp only [slices_Clone_uint32_uint32.f]
      rw [if_pos (by omega)]
      rfl
     ·rw [Nat.div_eq_of_lt lt, Nat.mod_eq_of_lt lt, Num.wordsN_zero, Num.wordsN_of ht0 n0]
      exact Ev.now _
    ·by_cases one : t1.length = 1
     ·have ox := rd_ok ht1 0
      have hval : Num.valN t1 = (rd t1 (0 : Int)).toNat := by
       obtain ⟨x, rfl⟩ := List.length_eq_one_iff.1 one
       simp [Num.valN, rd]
      have hd : 0 < rd t1 (0 : Int) ∧ rd t1 (0 : Int) < 4294967296 := by
       have : rd t1 ((0 : Nat) : Int) = rd t1 (0 : Int) := rfl
       omega
      obtain ⟨q1, q2⟩ := Num.shq_val hd.1 ht0
      have q3 := Num.shq_ok hd.1 ht0
      have q4 := Num.shq_length (rd t1 (0 : Int)) t0
      have q5 := Num.shq_rest hd.1 t0
      refine Ev.congr (f := fun k => (nat_short.f k t0 (rd t1 0)).bind fun bt545 => ((nat_trim.f k bt545.1).bind fun t549 => ((nat_trim.f k (([bt545.2] : List Int))).bind fun t555 => (some (t549, t555, (0 : Int)))))) (fun k => by rw [if_neg (fun h => lt (Num.cmpN_neg.1 h)), if_pos (by omega), if_pos (by omega)]) ?_
      refine Ev.bind (ev_short t0 ht0 _ hd (by omega)) (Ev.bind (ev_trim _ (by omega)) (Ev.bind (ev_trim _ (by simp)) ?_))
      rw [Num.trim_words q3, Num.trim_words (Num.okW_cons.2 ⟨⟨q5.1, by omega⟩, Num.okW_nil⟩), q1, hval]
      have : Num.valN [(Num.shq (rd t1 0) t0).2] = Num.valN t0 % (rd t1 (0 : Int)).toNat := by
       rw [q2]
       simp only [Num.valN, Int.toNat_natCast, Nat.mul_zero, Nat.add_zero]
      rw [this]
      exact Ev.now _
     ·refine Ev.congr (fun k => ?_) (div_main ht0 ht1 n0 n1 (by omega) (by omega) (by omega) (by omega) rfl)
      rw [if_neg (fun h => lt (Num.cmpN_neg.1 h)), if_neg (by omega), i64_id (x := (t1.length : Int) - 1) (by omega) (by omega), if_pos (by omega), if_pos (by omega)]
theorem set_part {L X T : List Int} {t : Nat} {v : Int} (h : t < X.length) : (L ++ X ++ T).set (L.length + t) v = L ++ X.set t v ++ T := by
 rw [List.append_assoc, List.set_append_right _ _ (by omega), Nat.add_sub_cancel_left, List.set_append_left _ _ h, List.append_assoc]
theorem mul_carry {P vd vx vb p y x c : Nat} (h : vd + P * c = vx + p * vb) : vd + P * ((c + (p * y + x)) % 4294967296) + P * 4294967296 * ((c + (p * y + x)) / 4294967296) = (vx + P * x) + p * (vb + P * y) := by
 have e : P * ((c + (p * y + x)) % 4294967296) + P * 4294967296 * ((c + (p * y + x)) / 4294967296) = P * (c + (p * y + x)) := by
  rw [Nat.mul_assoc, ← Nat.mul_add, Nat.mod_add_div]
 rw [Nat.mul_add, Nat.mul_add P, Nat.mul_left_comm P p y] at e
 rw [Nat.mul_add p]
 omega
theorem mul_l1v {a b L X T : List Int} (ob : Num.okW b) (oX : Num.okW X) (hX : X.length = b.length + 1) (hX0 : rd X (b.length : Int) = 0) (hb : b.length ≤ 1000000) (hL : L.length ≤ 1000000) {p : Nat} (hp : p < 4294967296) (d : Nat) :
  ∀ (j : Nat) (dn : List Int) (c : Nat), j + d = b.length → dn.length = j → Num.okW dn → c < 4294967296 →
   Num.valN dn + 4294967296 ^ j * c = Num.valN (X.take j) + p * Num.valN (b.take j) →
   ∃ X' : List Int, Num.okW X' ∧ X'.length = b.length + 1 ∧ Num.valN X' = Num.valN X + p * Num.valN b ∧
    ∀ R : List Int × Int, Ev (fun k => nat_Mul.l0 k b (L ++ X' ++ T) a (a.length : Int) ((L.length + 1 : Nat) : Int)) R →
     Ev (fun k => nat_Mul.l1 k b (L ++ (dn ++ X.drop j) ++ T) (L.length : Int) (p : Int) (c : Int) a (a.length : Int) (L.length : Int) b (b.length : Int) (j : Int)) R := by
 induction d with
 | zero =>
  intro j dn c hj hd od hc hv
  have hjb : j = b.length := by omega
  have e2 : (dn ++ X.drop j).set b.length (c : Int) = dn ++ [(c : Int)] := by
   rw [← hjb, List.set_append_right _ _ (by omega), hd, Nat.sub_self, List.drop_eq_getElem_cons (by omega), List.set_cons_zero, List.drop_of_length_le (by omega)]
  have htop := (top_word oX (n := b.length) hX).1
  rw [hX0, Int.toNat_zero, Nat.mul_zero, Nat.add_zero] at htop
  refine ⟨dn ++ [(c : Int)], Num.okW_snoc od (by omega) (by omega), by rw [List.length_append, hd]; simp; omega, ?_, ?_⟩
  ·rw [Num.val_snoc, hd, Int.toNat_natCast, hv, htop, ← hjb, List.take_of_length_le (l := b) (by omega)]
  ·intro R hR
   refine Ev.step (fun k => ?_) hR
   have hlen : (L.length : Int) + (b.length : Int) < ((L ++ (dn ++ X.drop j) ++ T).length : Int) := by simp only [List.length_append, List.length_drop]; omega
   simp only [nat_Mul.l1]
   rw [if_neg (by omega), i64_id (x := (L.length : Int) + (b.length : Int)) (by omega) (by omega), if_pos (by omega), if_pos hlen, i64_id (x := (L.length : Int) + 1) (by omega) (by omega),
    show ((L.length : Int) + (b.length : Int)).toNat = L.length + b.length by omega, set_part (by simp only [List.length_append, List.length_drop]; omega), show ((c : Int)) % 4294967296 = (c : Int) by omega, e2]
   rfl
 | succ d ih =>
  intro j dn c hj hd od hc hv
  have ox := rd_ok oX j
  have oy := rd_ok ob j
  obtain ⟨x, hx⟩ := Int.eq_ofNat_of_zero_le ox.1
  obtain ⟨y, hy⟩ := Int.eq_ofNat_of_zero_le oy.1
  have hpy : p * y ≤ 4294967295 * 4294967295 := Nat.mul_le_mul (by omega) (by omega)
  have e1 : rd (dn ++ X.drop j) (j : Int) = (x : Int) := by
   rw [← hx, rd_getD, rd_getD, List.getD_eq_getElem?_getD, List.getD_eq_getElem?_getD, List.getElem?_append_right (by omega), hd, Nat.sub_self, List.getElem?_drop, Nat.add_zero]
  have e2 : ∀ z : Int, (dn ++ X.drop j).set j z = (dn ++ [z]) ++ X.drop (j + 1) := by
   intro z
   rw [List.set_append_right _ _ (by omega), hd, Nat.sub_self, List.drop_eq_getElem_cons (by omega), List.set_cons_zero]
   simp
  have hwl : (dn ++ X.drop j).length = b.length + 1 := by rw [List.length_append, List.length_drop]; omega
  have e3 : rd (L ++ (dn ++ X.drop j) ++ T) ((L.length : Int) + (j : Int)) = (x : Int) := by
   rw [← e1]
   have := rd_part (L := L) (X := dn ++ X.drop j) (T := T) (i := j) (by omega)
   rw [← this]
   congr 1
  have eT : IntKind.u64.wrap ((c : Int) + IntKind.u64.wrap (IntKind.u64.wrap (IntKind.u64.wrap (p : Int) * IntKind.u64.wrap (y : Int)) + IntKind.u64.wrap (x : Int))) = ((c + (p * y + x) : Nat) : Int) := by
   rw [u64_id (x := (p : Int)) (by omega) (by omega), u64_id (x := (y : Int)) (by omega) (by omega), u64_id (x := (x : Int)) (by omega) (by omega), ← Int.natCast_mul, u64_id (x := ((p * y : Nat) : Int)) (by omega) (by omega), ← Int.natCast_add, u64_id (x := ((p * y + x : Nat) : Int)) (by omega) (by omega), ← Int.natCast_add, u64_id (by omega) (by omega)]
  have hnext := mul_carry (y := y) (x := x) hv
  obtain ⟨t, ht⟩ : ∃ t, t = c + (p * y + x) := ⟨_, rfl⟩
  rw [← ht] at eT hnext
  have htl : t < 18446744073709551616 := by omega
  obtain ⟨X', o', l', v', hev⟩ := ih (j + 1) (dn ++ [((t % 4294967296 : Nat) : Int)]) (t / 4294967296) (by omega) (by simp [hd]) (Num.okW_snoc od (by omega) (by omega)) (by omega) (by
   rw [Num.val_snoc, hd, Int.toNat_natCast, Num.val_take_next, Num.val_take_next, ← rd_toNat, ← rd_toNat, hx, hy, Int.toNat_natCast, Int.toNat_natCast, Nat.pow_succ]
   exact hnext)
  refine ⟨X', o', l', v', fun R hR => Ev.step (fun k => ?_) (hev R hR)⟩
  have hlen : (L.length : Int) + (j : Int) < ((L ++ (dn ++ X.drop j) ++ T).length : Int) := by rw [List.length_append, List.length_append, hwl]; omega
  have Et := md_ eT
  have E3 := md_ e3
  clear eT e3 hnext hv v' hev
  simp only [nat_Mul.l1]
  rw [if_pos (by omega), if_pos (by omega), if_pos (by omega), i64_id (x := (L.length : Int) + (j : Int)) (by omega) (by omega), if_pos (by omega), if_pos hlen, i64_id (x := (j : Int) + 1) (by omega) (by omega), hy, E3.out, Et.out,
   show ((L.length : Int) + (j : Int)).toNat = L.length + j by omega, set_part (by omega), show ((t : Nat) : Int) % 4294967296 = ((t % 4294967296 : Nat) : Int) by omega, e2, show ((t : Nat) : Int) / 4294967296 = ((t / 4294967296 : Nat) : Int) by omega]
  rfl
theorem mul_l0v {a b : List Int} (oa : Num.okW a) (ob : Num.okW b) (ha : a.length ≤ 2000) (hb : b.length ≤ 2000) (d : Nat) : ∀ (i : Nat) (x6 : List Int), i + d = a.length → x6.length = a.length + b.length → Num.okW x6 →
  Num.valN x6 = Num.valN (a.take i) * Num.valN b → (∀ k : Nat, i + b.length ≤ k → rd x6 (k : Int) = 0) →
  Ev (fun k => nat_Mul.l0 k b x6 a (a.length : Int) (i : Int)) (fitV (Num.valN a * Num.valN b)) := by
 induction d with
 | zero =>
  intro i x6 hi hl o hv _
  refine Ev.step (f := fun k => (nat_fits.f k x6).bind fun bt => some (bt.1, bt.2)) (fun k => ?_) ?_
  ·simp only [nat_Mul.l0]
   rw [if_neg (by omega)]
  ·have := ev_fits x6 (by omega)
   rw [fitsW_V o, hv, List.take_of_length_le (by omega)] at this
   exact Ev.bind this (Ev.now _)
 | succ d ih =>
  intro i x6 hi hl o hv hz
  have op := rd_ok oa i
  obtain ⟨p, hp⟩ := Int.eq_ofNat_of_zero_le op.1
  have hUe := three (U := x6) (j := i) (h := i + b.length + 1) (by omega)
  have oX : Num.okW ((x6.take (i + b.length + 1)).drop i) := Num.okW_drop (Num.okW_take o _) _
  have lX : ((x6.take (i + b.length + 1)).drop i).length = b.length + 1 := by rw [List.length_drop, List.length_take]; omega
  have lL : (x6.take i).length = i := by rw [List.length_take]; omega
  have oL : Num.okW (x6.take i) := Num.okW_take o _
  have oT : Num.okW (x6.drop (i + b.length + 1)) := Num.okW_drop o _
  generalize x6.drop (i + b.length + 1) = T at *
  generalize (x6.take (i + b.length + 1)).drop i = X at *
  generalize x6.take i = L at *
  subst hUe
  have hX0 : rd X (b.length : Int) = 0 := by
   have h1 := rd_part (L := L) (X := X) (T := T) (i := b.length) (by omega)
   rw [← h1, lL]
   exact hz _ (Nat.le_refl _)
  obtain ⟨X', o', l', v', hev⟩ := mul_l1v (a := a) (L := L) (T := T) ob oX lX hX0 (by omega) (by omega) (p := p) (by omega) b.length 0 [] 0 (by omega) rfl Num.okW_nil (by decide) (by simp [Num.valN])
  rw [lL] at hev
  have hnext := ih (i + 1) (L ++ X' ++ T) (by omega) (by simp only [List.length_append] at hl ⊢; omega) (Num.okW_append.2 ⟨Num.okW_append.2 ⟨oL, o'⟩, oT⟩) (by
   rw [three_val, v', l', lL, Num.val_take_next, ← rd_toNat, hp, Int.toNat_natCast, Nat.add_mul, ← hv, three_val, lX, lL]
   rw [Nat.mul_add, Nat.mul_assoc (4294967296 ^ i)]
   omega) (fun k hk => by
   have h0 := hz k (by omega)
   have hk2 : ∀ Y : List Int, Y.length = b.length + 1 → rd (L ++ Y ++ T) (k : Int) = rd T ((k - (i + b.length + 1) : Nat) : Int) := by
    intro Y hY
    rw [rd_getD, rd_getD, List.getD_eq_getElem?_getD, List.getD_eq_getElem?_getD, List.getElem?_append_right (by rw [List.length_append]; omega), List.length_append, lL, hY]
    rfl
   rw [hk2 X' l', ← hk2 X lX]
   exact h0)
  have h3 := hev _ hnext
  refine Ev.step (fun k => ?_) h3
  simp only [nat_Mul.l0]
  rw [if_pos (by omega), if_pos (by omega), if_pos (by omega), hp, List.drop_zero, List.nil_append]
  rfl
def mulW (a b : Nat) : List Int × Int := if 2000 < (Num.wordsN a).length ∨ 2000 < (Num.wordsN b).length then ([], 2) else fitV (a * b)
theorem ev_mul (l0 l1 : List Int) (o0 : Num.okW l0) (o1 : Num.okW l1) (h0 : l0.length ≤ 100000000) (h1 : l1.length ≤ 100000000) : Ev (fun k => nat_Mul.f k l0 l1) (mulW (Num.valN l0) (Num.valN l1)) := by
 have e0 := Num.trim_words o0
 have e1 := Num.trim_words o1
 unfold nat_Mul.f mulW
 rw [← e0, ← e1]
 refine Ev.bind (ev_large l0 (by omega)) ?_
 have big : Ev (fun k => nat_Mul.j0 k l0 l1 true) (([] : List Int), (2 : Int)) := by
  refine Ev.step (f := fun _ => some (([] : List Int), (2 : Int))) (fun k => ?_) (Ev.now _)
  simp only [nat_Mul.j0, if_true]
 by_cases c0 : 2000 < (Num.trimW l0).length
 ·simp only [decide_eq_true c0, if_true, if_pos (show 2000 < (Num.trimW l0).length ∨ 2000 < (Num.trimW l1).length from .inl c0)]
  exact big
 ·simp only [decide_eq_false c0, Bool.false_eq_true, if_false]
  refine Ev.bind (ev_large l1 (by omega)) ?_
  by_cases c1 : 2000 < (Num.trimW l1).length
  ·simp only [decide_eq_true c1, if_pos (show 2000 < (Num.trimW l0).length ∨ 2000 < (Num.trimW l1).length from .inr c1)]
   exact big
  ·rw [if_neg (show ¬ (2000 < (Num.trimW l0).length ∨ 2000 < (Num.trimW l1).length) by omega)]
   simp only [decide_eq_false c1]
   refine Ev.step (f := fun k => (nat_trim.f k l0).bind fun t192 => ((nat_trim.f k l1).bind fun t195 => (if 0 ≤ (wrap64 ((t192.length : Int) + (t195.length : Int))) then (if (wrap64 ((t192.length : Int) + (t195.length : Int)) : Int).toNat ≤ 70368744177664 then (nat_Mul.l0 k t195 (List.replicate (wrap64 ((t192.length : Int) + (t195.length : Int)) : Int).toNat 0) t192 (t192.length : Int) 0) else (none)) else (none)))) (fun k => by simp only [nat_Mul.j0, Bool.false_eq_true, if_false]) ?_
   refine Ev.bind (ev_trim l0 (by omega)) (Ev.bind (ev_trim l1 (by omega)) ?_)
   have hz : Num.valN (List.replicate ((Num.trimW l0).length + (Num.trimW l1).length) 0) = 0 := by
    have := val_zeros ((Num.trimW l0).length + (Num.trimW l1).length) []
    simpa [Num.valN] using this
   have h := mul_l0v (Num.okW_trim o0) (Num.okW_trim o1) (by omega) (by omega) (Num.trimW l0).length 0 (List.replicate ((Num.trimW l0).length + (Num.trimW l1).length) 0) (by omega) (List.length_replicate ..) (okW_zeros _) (by rw [hz]; simp [Num.valN]) (fun k _ => by
    rw [rd_getD, List.getD_eq_getElem?_getD, List.getElem?_replicate]
    split <;> rfl)
   rw [Num.trimW_val, Num.trimW_val] at h
   have ew : wrap64 (((Num.trimW l0).length : Int) + ((Num.trimW l1).length : Int)) = (((Num.trimW l0).length + (Num.trimW l1).length : Nat) : Int) := by rw [i64_id (by omega) (by omega)]; omega
   have c2 : (0 : Int) ≤ (((Num.trimW l0).length + (Num.trimW l1).length : Nat) : Int) := by omega
   have c3 : (Num.trimW l0).length + (Num.trimW l1).length ≤ 70368744177664 := by omega
   refine Ev.congr (fun k => ?_) h
   rw [ew, if_pos c2, Int.toNat_natCast, if_pos c3]
   rfl
theorem dg9_chars (n : Int) (h0 : 0 ≤ n) : ∀ c ∈ Num.dg9 n, 48 ≤ c.toNat ∧ c.toNat ≤ 57 := by
 intro c hc
 unfold Num.dg9 at hc
 obtain ⟨j, _, rfl⟩ := List.mem_map.1 hc
 have h1 : 0 ≤ n / 10 ^ (8 - j) := Int.ediv_nonneg h0 (Int.pow_nonneg (by decide))
 generalize n / 10 ^ (8 - j) = z at h1 ⊢
 have h2 : (48 + z % 10).toNat < 256 := by omega
 rw [UInt8.toNat_ofNat_of_lt' h2]
 omega
theorem digit_char (z k : Nat) : (UInt8.ofNat (48 + (z : Int) / 10 ^ k % 10).toNat).toNat - 48 = z / 10 ^ k % 10 := by
 have e : (z : Int) / 10 ^ k = ((z / 10 ^ k : Nat) : Int) := by simp
 rw [e]
 generalize z / 10 ^ k = y
 have h2 : (48 + (y : Int) % 10).toNat < 256 := by omega
 rw [UInt8.toNat_ofNat_of_lt' h2]
 omega
theorem decL_digits (z : Nat) : ∀ (m a : Nat), Num.decL a ((List.range m).map fun j => UInt8.ofNat (48 + (z : Int) / 10 ^ (m - 1 - j) % 10).toNat) = a * 10 ^ m + z % 10 ^ m := by
 intro m
 induction m with
 | zero =>
  intro a
  show a = a * 10 ^ 0 + z % 10 ^ 0
  rw [Nat.pow_zero, Nat.mod_one]
  omega
 | succ m ih =>
  intro a
  rw [List.range_succ_eq_map, List.map_cons, List.map_map]
  have e : ((fun j => UInt8.ofNat (48 + (z : Int) / 10 ^ (m + 1 - 1 - j) % 10).toNat) ∘ Nat.succ) = fun j => UInt8.ofNat (48 + (z : Int) / 10 ^ (m - 1 - j) % 10).toNat := by
   funext j
   show UInt8.ofNat (48 + (z : Int) / 10 ^ (m + 1 - 1 - (j + 1)) % 10).toNat = _
   rw [show m + 1 - 1 - (j + 1) = m - 1 - j by omega]
  rw [e]
  show Num.decL (a * 10 + ((UInt8.ofNat (48 + (z : Int) / 10 ^ (m + 1 - 1 - 0) % 10).toNat).toNat - 48)) _ = _
  rw [ih, show m + 1 - 1 - 0 = m by omega, digit_char, Nat.mod_pow_succ, Nat.pow_succ, Nat.add_mul, Nat.mul_assoc, Nat.mul_comm 10 (10 ^ m), Nat.mul_comm (z / 10 ^ m % 10)]
  omega
theorem decL_dg9 (a z : Nat) (hz : z < 1000000000) : Num.decL a (Num.dg9 (z : Int)) = a * 1000000000 + z := by
 have h := decL_digits z 9 a
 rw [Nat.mod_eq_of_lt (show z < 10 ^ 9 from hz)] at h
 exact h
theorem decL_pcs (v : Nat) : Num.decL 0 ((Num.pcs v).reverse.flatMap Num.dg9) = v := by
 induction v using Nat.strongRecOn with
 | _ v ih =>
  rcases Nat.eq_zero_or_pos v with h | h
  ·subst h; rw [Num.pcs_zero]; rfl
  ·rw [Num.pcs_pos h, List.reverse_cons, List.flatMap_append, Num.decL_append, ih _ (Nat.div_lt_self h (by decide))]
   simp only [List.flatMap_cons, List.flatMap_nil, List.append_nil]
   rw [decL_dg9 _ _ (Nat.mod_lt _ (by decide))]
   omega
theorem decL_drop48 (l : List UInt8) : Num.decL 0 (l.dropWhile (· == 48)) = Num.decL 0 l := by
 induction l with
 | nil => rfl
 | cons c cs ih =>
  rw [List.dropWhile_cons]
  by_cases h : c == 48
  ·rw [if_pos h, ih]
   have : c = 48 := by simpa using h
   subst this
   rfl
  ·rw [if_neg h]
theorem textN_dec (v : Nat) : Num.decL 0 (Num.textN v) = v := by
 unfold Num.textN
 by_cases h : v = 0
 ·rw [if_pos h, h]; rfl
 ·rw [if_neg h, decL_drop48, decL_pcs]
theorem textN_digs (v : Nat) : Num.digs (Num.textN v) = true := by
 unfold Num.digs
 rw [List.all_eq_true]
 intro c hc
 have : 48 ≤ c.toNat ∧ c.toNat ≤ 57 := by
  unfold Num.textN at hc
  by_cases h : v = 0
  ·rw [if_pos h] at hc
   have : c = 48 := by simpa using hc
   subst this
   decide
  ·rw [if_neg h] at hc
   have h1 := (List.dropWhile_sublist _).subset hc
   obtain ⟨z, hz, hc2⟩ := List.mem_flatMap.1 h1
   exact dg9_chars z (Num.pcs_range v z (List.mem_reverse.1 hz)).1 c hc2
 simp [this.1, this.2]
theorem dg9_len (z : Int) : (Num.dg9 z).length = 9 := by unfold Num.dg9; simp
theorem textN_len (v m : Nat) (h : v < 65536 ^ m) : (Num.textN v).length ≤ 9 * m + 1 := by
 unfold Num.textN
 by_cases h0 : v = 0
 ·rw [if_pos h0]; simp
 ·rw [if_neg h0]
  have h1 := (List.dropWhile_sublist (· == (48 : UInt8)) (l := (Num.pcs v).reverse.flatMap Num.dg9)).length_le
  have h2 : ((Num.pcs v).reverse.flatMap Num.dg9).length = 9 * (Num.pcs v).length := by
   have : ∀ l : List Int, (l.flatMap Num.dg9).length = 9 * l.length := by
    intro l
    induction l with
    | nil => rfl
    | cons x xs ih => rw [List.flatMap_cons, List.length_append, ih, dg9_len, List.length_cons]; omega
   rw [this, List.length_reverse]
  have h3 := Num.pcs_len m v h
  omega
theorem textN_ne (v : Nat) : Num.textN v ≠ [] := by
 intro h
 have h1 := textN_dec v
 rw [h] at h1
 have : v = 0 := h1.symm
 subst this
 exact absurd h (by decide)
end Go.Proofs.YtneepokiioefgaaGreatDoor.Pure
namespace Go.Proofs.YtneepokiioefgaaGreatDoor.natBack
open Go.ChangeShapes Go.WideShapes Go.ChangeAt Go.RowKit
open Go.ChangeMaps (open_string shut_string)
end Go.Proofs.YtneepokiioefgaaGreatDoor.natBack
namespace Go.Proofs.YtneepokiioefgaaGreatDoor
end Go.Proofs.YtneepokiioefgaaGreatDoor
set_option maxHeartbeats 32000000
namespace Go.Proofs.YtneepokiioefgaaGreatDoor.PDec
open Go.RowKit YtneepokiioefgaaGreatDoorW.PrintWords YtneepokiioefgaaGreatDoorW.PrintLast YtneepokiioefgaaGreatDoorW.PrintMore
attribute [local go_sem] max2_int min2_int max_two min_two max_three min_three max_four min_four
def soft_isNaN.f (a0 : Int) : Option (Bool) := some (decide ((Go.bits .andNot .u64 a0 9223372036854775808) > 9218868437227405312))
set_option maxRecDepth 100000 in
theorem soft_isNaN.calls (a0 : Int) (r : Bool) (w : World) (h : soft_isNaN.f a0 = some r) :
  Calls Tryz.prog 65 #[.int .u64 a0] w fun e w' => e = .returned (.bool r) ∧ Drawn0 w w' := by
 have H : (some (decide ((Go.bits .andNot .u64 a0 9223372036854775808) > 9218868437227405312))) = some r := h
 clear h
 obtain rfl := Option.some.inj H
 go_enter Tryz.func65, Tryz.ntmps65
 go_wp2
 go_ret
 exact ⟨by first | rfl | (simp; done) | (simp [*]; done), by repeat (first | exact Drawn0.refl _ | apply Drawn0.step)⟩
def soft_isInf.f (a0 : Int) : Option (Bool) := some ((Go.bits .andNot .u64 a0 9223372036854775808) == 9218868437227405312)
set_option maxRecDepth 100000 in
theorem soft_isInf.calls (a0 : Int) (r : Bool) (w : World) (h : soft_isInf.f a0 = some r) :
  Calls Tryz.prog 80 #[.int .u64 a0] w fun e w' => e = .returned (.bool r) ∧ Drawn0 w w' := by
 have H : (some ((Go.bits .andNot .u64 a0 9223372036854775808) == 9218868437227405312)) = some r := h
 clear h
 obtain rfl := Option.some.inj H
 go_enter Tryz.func80, Tryz.ntmps80
 go_wp2
 go_ret
 exact ⟨by first | rfl | (simp; done) | (simp [*]; done), by repeat (first | exact Drawn0.refl _ | apply Drawn0.step)⟩
def soft_isNeg.f (a0 : Int) : Option (Bool) := some ((a0 / 9223372036854775808) == 1)
set_option maxRecDepth 100000 in
theorem soft_isNeg.calls (a0 : Int) (r : Bool) (w : World) (h : soft_isNeg.f a0 = some r) :
  Calls Tryz.prog 109 #[.int .u64 a0] w fun e w' => e = .returned (.bool r) ∧ Drawn0 w w' := by
 have H : (some ((a0 / 9223372036854775808) == 1)) = some r := h
 clear h
 obtain rfl := Option.some.inj H
 go_enter Tryz.func109, Tryz.ntmps109
 go_wp2
 go_ret
 exact ⟨by first | rfl | (simp; done) | (simp [*]; done), by repeat (first | exact Drawn0.refl _ | apply Drawn0.step)⟩
end Go.Proofs.YtneepokiioefgaaGreatDoor.PDec
set_option maxHeartbeats 32000000
namespace Go.Proofs.YtneepokiioefgaaGreatDoor.Dec
open Go.RowKit PDec Go.Proofs.YtneepokiioefgaaGreatDoor.Pure YtneepokiioefgaaGreatDoorW.PrintWords YtneepokiioefgaaGreatDoorW.PrintLast YtneepokiioefgaaGreatDoorW.PrintMore
attribute [local go_sem] max2_int min2_int max_two min_two max_three min_three max_four min_four
theorem shl64 (a n : Nat) (hn : n ≤ 64) : shl .u64 (a : Int) (n : Int) = ((a * 2 ^ n % 18446744073709551616 : Nat) : Int) := by
 unfold shl
 rw [Int.toNat_natCast, show min n IntKind.u64.bits = n from Nat.min_eq_left hn]
 rw [IntKind.wrap_u64, Int.natCast_emod, Int.natCast_mul, Int.natCast_pow]
 rfl
theorem shr64 (a n : Nat) (hn : n ≤ 64) : shr .u64 (a : Int) (n : Int) = ((a / 2 ^ n : Nat) : Int) := by
 unfold shr
 rw [Int.toNat_natCast, show min n IntKind.u64.bits = n from Nat.min_eq_left hn]
 push_cast
 rfl
end Go.Proofs.YtneepokiioefgaaGreatDoor.Dec
set_option maxHeartbeats 32000000
namespace Go.Proofs.YtneepokiioefgaaGreatDoor.Dec
open Go.RowKit Go.Flt PDec Go.Proofs.YtneepokiioefgaaGreatDoor.Pure YtneepokiioefgaaGreatDoorW.PrintWords YtneepokiioefgaaGreatDoorW.PrintLast YtneepokiioefgaaGreatDoorW.PrintMore
attribute [local go_sem] max2_int min2_int max_two min_two max_three min_three max_four min_four
theorem i64w_id {x : Int} (h0 : -9223372036854775808 ≤ x) (h1 : x ≤ 9223372036854775807) : IntKind.i64.wrap x = x := (i64_w x).trans (i64_id h0 h1)
end Go.Proofs.YtneepokiioefgaaGreatDoor.Dec
set_option maxHeartbeats 32000000
namespace Go.Proofs.YtneepokiioefgaaGreatDoor.Dec
open Go.RowKit Go.Flt PDec Go.Proofs.YtneepokiioefgaaGreatDoor.Pure YtneepokiioefgaaGreatDoorW.PrintWords YtneepokiioefgaaGreatDoorW.PrintLast YtneepokiioefgaaGreatDoorW.PrintMore
def fneg (a : Nat) : Bool := decide (9223372036854775808 ≤ a)
def fexp (a : Nat) : Nat := a / 4503599627370496 % 2048
def fmant (a : Nat) : Nat := if fexp a = 0 then a % 4503599627370496 else a % 4503599627370496 + 4503599627370496
def fpow (a : Nat) : Int := if fexp a = 0 then -1074 else (fexp a : Int) - 1075
theorem s_isNeg (w : World) (a : Nat) (ha : a < 18446744073709551616) : Calls Tryz.prog 109 #[.int .u64 (a : Int)] w fun e w' => e = .returned (.bool (fneg a)) ∧ Drawn0 w w' := by
 refine soft_isNeg.calls _ _ w ?_
 unfold soft_isNeg.f fneg
 congr 1
 rw [Bool.eq_iff_iff, beq_iff_eq, decide_eq_true_iff]
 omega
set_option maxRecDepth 100000 in
theorem s_split (w : World) (a : Nat) (ha : a < 18446744073709551616) : Calls Tryz.prog 81 #[.int .u64 (a : Int)] w fun e w' => e = .returned (.agg #[.bool (fneg a), .int .u64 ((fmant a : Nat) : Int), .int .i64 (fpow a)]) ∧ Below w.heap.size w w' := by
 have hu102 := Tryz.underlying123
 have HB := md_ (Below.refl w.heap.size w)
 have HN := md_ (fun w => s_isNeg w a ha)
 obtain ⟨neg, hneg⟩ : ∃ z, fneg a = z := ⟨_, rfl⟩
 rw [hneg] at HN ⊢
 obtain ⟨aa, haa⟩ : ∃ z : Int, (a : Int) = z := ⟨_, rfl⟩
 obtain ⟨y, hy⟩ : ∃ z : Int, aa / 4503599627370496 = z := ⟨_, rfl⟩
 obtain ⟨x, hx⟩ : ∃ z : Int, ((fexp a : Nat) : Int) = z := ⟨_, rfl⟩
 obtain ⟨f, hf⟩ : ∃ z : Int, ((a % 4503599627370496 : Nat) : Int) = z := ⟨_, rfl⟩
 have hx0 : fexp a < 2048 := Nat.mod_lt _ (by decide)
 have hand : bits .and .u64 y 2047 = x := by
  rw [← hy, ← haa, ← hx, show ((a : Int) / 4503599627370496) = ((a / 4503599627370496 : Nat) : Int) by omega, show (2047 : Int) = ((2047 : Nat) : Int) from rfl, u64_and_nat _ _ (by omega) (by decide), show (2047 : Nat) = 2 ^ 11 - 1 from rfl, Nat.and_two_pow_sub_one_eq_mod]
  try rfl
 have hfr : bits .and .u64 aa 4503599627370495 = f := by
  rw [← haa, ← hf, show (4503599627370495 : Int) = ((4503599627370495 : Nat) : Int) from rfl, u64_and_nat _ _ ha (by decide), show (4503599627370495 : Nat) = 2 ^ 52 - 1 from rfl, Nat.and_two_pow_sub_one_eq_mod]
  try rfl
 have hor : bits .or .u64 f 4503599627370496 = f + 4503599627370496 := by
  rw [← hf, show (4503599627370496 : Int) = ((4503599627370496 : Nat) : Int) from rfl, u64_or_nat _ _ (by omega) (by decide), Nat.or_comm, nat_join 52 _ _ (by decide) (by have : (2 : Nat) ^ 52 = 4503599627370496 := rfl; omega)]
  omega
 have hw1 : IntKind.i64.wrap x = x := i64w_id (by omega) (by omega)
 have hw1' : wrap64 x = x := i64_id (by omega) (by omega)
 rw [haa] at HN ⊢
 by_cases c : fexp a = 0
 ·have hm : ((fmant a : Nat) : Int) = f := by unfold fmant; rw [if_pos c, hf]
  have hp : fpow a = -1074 := by unfold fpow; rw [if_pos c]
  rw [hm, hp]
  have c1 := decide_eq_false (show ¬ (0 : Int) < x by omega)
  clear hor hx hx0 hf hneg haa hm hp c ha
  go_enter Tryz.func81, Tryz.ntmps81
  go_wp2_with (first | ((with_reducible refine gate_dst (N := 2) rfl ?_); refine box_event ?hg (N := 2) ?hd (cs := #[.bool false, .int .u64 0, .int .i64 0]) (t := 123) ?hr ?_; (case hd => rfl); (case hg => rfl); (case hr => first | (go_simp; done) | (go_simp; rfl)); intro g1 hg w4 hbox hb; have n0_ := md_ (below_step HB.out hb); have n1_ := md_ hbox; have n2_ := md_ ((by rw [hg]; exact (below_size HB.out)) : w.heap.size ≤ g1); clear HB; have HB := n0_; have BK := n1_; have GE := n2_; clear n0_ n1_ n2_; clear hb hbox hg) | (go_at_call 109; (with_reducible refine (HN.out _).mono ?_); rintro e w' ⟨rfl, ⟨nd, rfl⟩⟩) | ((with_reducible refine gate_dst (N := 3) rfl ?_); refine box_event ?hg (N := 3) ?hd (cs := #[.bool false, .int .u64 0, .int .i64 0]) (t := 123) ?hr ?_; (case hd => rfl); (case hg => rfl); (case hr => first | (go_simp; done) | (go_simp; rfl)); intro g2 hg w5 hbox hb; have n0_ := md_ (blk_below (g := g1) (by (with_reducible repeat (first | refine blk_drewN ?_ _ | refine blk_drew ?_ | refine blk_alloc ?_ _)); exact BK.out) hb); have n1_ := md_ (below_step (by repeat (first | (with_reducible first | exact HB.out | apply below_alloc | apply pw_below_drewN | apply below_drew1) | exact HB.out)) hb); have n2_ := md_ hbox; have n3_ := md_ ((by rw [hg]; exact (below_size (by repeat (first | (with_reducible first | exact HB.out | apply below_alloc | apply pw_below_drewN | apply below_drew1) | exact HB.out))) : w.heap.size ≤ g2)); have n4_ := md_ ((by rw [hg]; exact Nat.ne_of_lt (blk_lt (g := g1) (by (with_reducible repeat (first | refine blk_drewN ?_ _ | refine blk_drew ?_ | refine blk_alloc ?_ _)); exact BK.out)) : g1 ≠ g2)); clear BK HB; have BK := n0_; have HB := n1_; have BK2 := n2_; have GE2 := n3_; have NE := n4_; clear n0_ n1_ n2_ n3_ n4_; clear hb hbox hg; have ne1 := NE.out; have ne2 := NE.out.symm; have z0 : w5.cell? ⟨g2, 0, none⟩ = some (.bool false) := (blk_cell BK2.out 0).trans rfl; have z1 : w5.cell? ⟨g2, 1, none⟩ = some (.int .u64 0) := (blk_cell BK2.out 1).trans rfl; have z2 : w5.cell? ⟨g2, 2, none⟩ = some (.int .i64 0) := (blk_cell BK2.out 2).trans rfl; have f0 := blk_frozen BK2.out 0; have f1 := blk_frozen BK2.out 1; have f2 := blk_frozen BK2.out 2; have y0 : w5.cell? ⟨g1, 0, none⟩ = some (.bool false) := (blk_cell BK.out 0).trans rfl; have y1 : w5.cell? ⟨g1, 1, none⟩ = some (.int .u64 0) := (blk_cell BK.out 1).trans rfl; have y2 : w5.cell? ⟨g1, 2, none⟩ = some (.int .i64 0) := (blk_cell BK.out 2).trans rfl; have h0 := blk_frozen BK.out 0; have h1 := blk_frozen BK.out 1; have h2 := blk_frozen BK.out 2))
  refine bodyPost_ret (results_cell_row rfl _ _ g1 123 #[.bool neg, .int .u64 f, .int .i64 (-1074)] (0, 0) _ rfl (by refine blk_put (cs := #[.bool neg, .int .u64 f, .int .i64 0]) ?_ 2 _ rfl; refine blk_put (cs := #[.bool neg, .int .u64 0, .int .i64 0]) ?_ 1 _ rfl; refine blk_put (cs := #[.bool false, .int .u64 0, .int .i64 0]) ?_ 0 _ rfl; refine blk_far ?_ NE.out _; refine blk_far ?_ NE.out _; refine blk_far ?_ NE.out _; exact BK.out) Tryz.underlying123 rfl (by kernel_rfl)) rfl ?_
  exact ⟨rfl, by repeat (first | exact HB.out | refine below_set ?_ GE.out | refine below_set ?_ GE2.out)⟩
 ·obtain ⟨m, hm'⟩ : ∃ z : Int, f + 4503599627370496 = z := ⟨_, rfl⟩
  have hm : ((fmant a : Nat) : Int) = m := by unfold fmant; rw [if_neg c]; omega
  obtain ⟨e, he'⟩ : ∃ z : Int, x - 1075 = z := ⟨_, rfl⟩
  have hp : fpow a = e := by unfold fpow; rw [if_neg c]; omega
  rw [hm, hp]
  rw [hm'] at hor
  have c1 := decide_eq_true (show (0 : Int) < x by omega)
  obtain ⟨x1, hx1⟩ : ∃ z : Int, x - 1 = z := ⟨_, rfl⟩
  have hw2 : IntKind.i64.wrap (x - 1) = x1 := by rw [i64w_id (by omega) (by omega)]; exact hx1
  have hw3 : IntKind.i64.wrap (x1 + -1074) = e := by rw [i64w_id (by omega) (by omega)]; omega
  have hw2' : wrap64 (x - 1) = x1 := by rw [i64_id (by omega) (by omega)]; exact hx1
  have hw3' : wrap64 (x1 + -1074) = e := by rw [i64_id (by omega) (by omega)]; omega
  clear hx hx0 hf hneg haa hm hp c ha hm' he' hx1
  go_enter Tryz.func81, Tryz.ntmps81
  go_upto_region 4 with (first | ((with_reducible refine gate_dst (N := 2) rfl ?_); refine box_event ?hg (N := 2) ?hd (cs := #[.bool false, .int .u64 0, .int .i64 0]) (t := 123) ?hr ?_; (case hd => rfl); (case hg => rfl); (case hr => first | (go_simp; done) | (go_simp; rfl)); intro g1 hg w4 hbox hb; have n0_ := md_ (below_step HB.out hb); have n1_ := md_ hbox; have n2_ := md_ ((by rw [hg]; exact (below_size HB.out)) : w.heap.size ≤ g1); clear HB; have HB := n0_; have BK := n1_; have GE := n2_; clear n0_ n1_ n2_; clear hb hbox hg) | (go_at_call 109; (with_reducible refine (HN.out _).mono ?_); rintro e w' ⟨rfl, ⟨nd, rfl⟩⟩) | ((with_reducible refine gate_dst (N := 3) rfl ?_); refine box_event ?hg (N := 3) ?hd (cs := #[.bool false, .int .u64 0, .int .i64 0]) (t := 123) ?hr ?_; (case hd => rfl); (case hg => rfl); (case hr => first | (go_simp; done) | (go_simp; rfl)); intro g2 hg w5 hbox hb; have n0_ := md_ (blk_below (g := g1) (by (with_reducible repeat (first | refine blk_drewN ?_ _ | refine blk_drew ?_ | refine blk_alloc ?_ _)); exact BK.out) hb); have n1_ := md_ (below_step (by repeat (first | (with_reducible first | exact HB.out | apply below_alloc | apply pw_below_drewN | apply below_drew1) | exact HB.out)) hb); have n2_ := md_ hbox; have n3_ := md_ ((by rw [hg]; exact (below_size (by repeat (first | (with_reducible first | exact HB.out | apply below_alloc | apply pw_below_drewN | apply below_drew1) | exact HB.out))) : w.heap.size ≤ g2)); have n4_ := md_ ((by rw [hg]; exact Nat.ne_of_lt (blk_lt (g := g1) (by (with_reducible repeat (first | refine blk_drewN ?_ _ | refine blk_drew ?_ | refine blk_alloc ?_ _)); exact BK.out)) : g1 ≠ g2)); clear BK HB; have BK := n0_; have HB := n1_; have BK2 := n2_; have GE2 := n3_; have NE := n4_; clear n0_ n1_ n2_ n3_ n4_; clear hb hbox hg; have ne1 := NE.out; have ne2 := NE.out.symm; have z0 : w5.cell? ⟨g2, 0, none⟩ = some (.bool false) := (blk_cell BK2.out 0).trans rfl; have z1 : w5.cell? ⟨g2, 1, none⟩ = some (.int .u64 0) := (blk_cell BK2.out 1).trans rfl; have z2 : w5.cell? ⟨g2, 2, none⟩ = some (.int .i64 0) := (blk_cell BK2.out 2).trans rfl; have f0 := blk_frozen BK2.out 0; have f1 := blk_frozen BK2.out 1; have f2 := blk_frozen BK2.out 2; have y0 : w5.cell? ⟨g1, 0, none⟩ = some (.bool false) := (blk_cell BK.out 0).trans rfl; have y1 : w5.cell? ⟨g1, 1, none⟩ = some (.int .u64 0) := (blk_cell BK.out 1).trans rfl; have y2 : w5.cell? ⟨g1, 2, none⟩ = some (.int .i64 0) := (blk_cell BK.out 2).trans rfl; have h0 := blk_frozen BK.out 0; have h1 := blk_frozen BK.out 1; have h2 := blk_frozen BK.out 2))
  generalize hW : World.setCell _ _ _ = w6
  replace BK2 := md_ (show w6.heap[g2]? = some (.cells #[.bool neg, .int .u64 f, .int .i64 (-1074)] 123 (0, 0)) by rw [← hW]; refine blk_put (cs := #[.bool neg, .int .u64 f, .int .i64 0]) ?_ 2 _ rfl; refine blk_put (cs := #[.bool neg, .int .u64 0, .int .i64 0]) ?_ 1 _ rfl; refine blk_put (cs := #[.bool false, .int .u64 0, .int .i64 0]) ?_ 0 _ rfl; exact BK2.out)
  replace BK := md_ (show w6.heap[g1]? = some (.cells #[.bool false, .int .u64 0, .int .i64 0] 123 (0, 0)) by rw [← hW]; refine blk_far ?_ NE.out _; refine blk_far ?_ NE.out _; refine blk_far ?_ NE.out _; exact BK.out)
  replace HB := md_ (show Below w.heap.size w w6 by rw [← hW]; repeat (first | exact HB.out | refine below_set ?_ GE2.out))
  clear hW z0 z1 z2 f0 f1 f2 y0 y1 y2 h0 h1 h2
  have z1 : w6.cell? ⟨g2, 1, none⟩ = some (.int .u64 f) := (blk_cell BK2.out 1).trans rfl
  have f1 := blk_frozen BK2.out 1
  go_upto_region 5 with (go_at_call 9999; skip)
  generalize hW : World.setCell _ _ _ = w7
  replace BK2 := md_ (show w7.heap[g2]? = some (.cells #[.bool neg, .int .u64 m, .int .i64 (-1074)] 123 (0, 0)) by rw [← hW]; refine blk_put (cs := #[.bool neg, .int .u64 f, .int .i64 (-1074)]) ?_ 1 _ rfl; exact BK2.out)
  replace BK := md_ (show w7.heap[g1]? = some (.cells #[.bool false, .int .u64 0, .int .i64 0] 123 (0, 0)) by rw [← hW]; refine blk_far ?_ NE.out _; exact BK.out)
  replace HB := md_ (show Below w.heap.size w w7 by rw [← hW]; repeat (first | exact HB.out | refine below_set ?_ GE2.out))
  clear hW z1 f1
  have f2 := blk_frozen BK2.out 2
  have z2 : w7.cell? ⟨g2, 2, none⟩ = some (.int .i64 (-1074)) := (blk_cell BK2.out 2).trans rfl
  go_upto_region 6 with (go_at_call 9999; skip)
  generalize hW : World.setCell _ _ _ = w8
  replace BK2 := md_ (show w8.heap[g2]? = some (.cells #[.bool neg, .int .u64 m, .int .i64 e] 123 (0, 0)) by rw [← hW]; refine blk_put (cs := #[.bool neg, .int .u64 m, .int .i64 (-1074)]) ?_ 2 _ rfl; exact BK2.out)
  replace BK := md_ (show w8.heap[g1]? = some (.cells #[.bool false, .int .u64 0, .int .i64 0] 123 (0, 0)) by rw [← hW]; refine blk_far ?_ NE.out _; exact BK.out)
  replace HB := md_ (show Below w.heap.size w w8 by rw [← hW]; repeat (first | exact HB.out | refine below_set ?_ GE2.out))
  clear hW z2 f2
  have z0 : w8.cell? ⟨g2, 0, none⟩ = some (.bool neg) := (blk_cell BK2.out 0).trans rfl
  have z1 : w8.cell? ⟨g2, 1, none⟩ = some (.int .u64 m) := (blk_cell BK2.out 1).trans rfl
  have z2 : w8.cell? ⟨g2, 2, none⟩ = some (.int .i64 e) := (blk_cell BK2.out 2).trans rfl
  have y0 : w8.cell? ⟨g1, 0, none⟩ = some (.bool false) := (blk_cell BK.out 0).trans rfl
  have y1 : w8.cell? ⟨g1, 1, none⟩ = some (.int .u64 0) := (blk_cell BK.out 1).trans rfl
  have y2 : w8.cell? ⟨g1, 2, none⟩ = some (.int .i64 0) := (blk_cell BK.out 2).trans rfl
  have h0 := blk_frozen BK.out 0
  have h1 := blk_frozen BK.out 1
  have h2 := blk_frozen BK.out 2
  go_wp2
  refine bodyPost_ret (results_cell_row rfl _ _ g1 123 #[.bool neg, .int .u64 m, .int .i64 e] (0, 0) _ rfl (by refine blk_put (cs := #[.bool neg, .int .u64 m, .int .i64 0]) ?_ 2 _ rfl; refine blk_put (cs := #[.bool neg, .int .u64 0, .int .i64 0]) ?_ 1 _ rfl; refine blk_put (cs := #[.bool false, .int .u64 0, .int .i64 0]) ?_ 0 _ rfl; exact BK.out) Tryz.underlying123 rfl (by kernel_rfl)) rfl ?_
  exact ⟨rfl, by repeat (first | exact HB.out | refine below_set ?_ GE.out | refine below_set ?_ GE2.out)⟩
end Go.Proofs.YtneepokiioefgaaGreatDoor.Dec
set_option maxHeartbeats 32000000
namespace Go.Num
end Go.Num
namespace Go.Proofs.YtneepokiioefgaaGreatDoor.PNat
open Go.RowKit YtneepokiioefgaaGreatDoorW.PrintWords YtneepokiioefgaaGreatDoorW.PrintLast YtneepokiioefgaaGreatDoorW.PrintMore
attribute [local go_sem] max2_int min2_int max_two min_two max_three min_three max_four min_four
theorem ow_C_len {α : Type} {d : Kd α} {w : World} {A : Option Addr} {n m : Nat} {xs : List α} (h : n = m) (hc : d.C w A n xs) : d.C w A m xs := h ▸ hc
end Go.Proofs.YtneepokiioefgaaGreatDoor.PNat
namespace Go.Proofs
open Go.Shelf
end Go.Proofs
namespace Go.Proofs.YtneepokiioefgaaGreatDoor.PNat
open Go.RowKit YtneepokiioefgaaGreatDoorW.PrintWords YtneepokiioefgaaGreatDoorW.PrintLast YtneepokiioefgaaGreatDoorW.PrintMore
attribute [local go_sem] max2_int min2_int max_two min_two max_three min_three max_four min_four
end Go.Proofs.YtneepokiioefgaaGreatDoor.PNat
set_option maxHeartbeats 32000000
namespace Go.Proofs.YtneepokiioefgaaGreatDoor.PNat
open Go.RowKit YtneepokiioefgaaGreatDoorW.PrintWords YtneepokiioefgaaGreatDoorW.PrintLast YtneepokiioefgaaGreatDoorW.PrintMore
attribute [local go_sem] max2_int min2_int max_two min_two max_three min_three max_four min_four
def bobbinref2_Norm.l0 : Nat → List Int → Int → Option (List Int)
 | 0, _, _ => none
 | k + 1, x0, x3 => if x3 > 0 then (if 0 ≤ (wrap64 (x3 - 1)) then (if (wrap64 (x3 - 1)) < (x0.length : Int) then (if (rd x0 (wrap64 (x3 - 1))) = 0 then (bobbinref2_Norm.l0 k x0 (wrap64 (x3 - 1))) else (if 0 ≤ x3 then (if x3 ≤ (x0.length : Int) then (if ([] : List Int).length + (x0.take (x3 : Int).toNat).length < 35184372088832 then (some (([] : List Int) ++ (x0.take (x3 : Int).toNat))) else (none)) else (none)) else (none))) else (none)) else (none)) else (if 0 ≤ x3 then (if x3 ≤ (x0.length : Int) then (if ([] : List Int).length + (x0.take (x3 : Int).toNat).length < 35184372088832 then (some (([] : List Int) ++ (x0.take (x3 : Int).toNat))) else (none)) else (none)) else (none))
def bobbinref2_Norm.f (k : Nat) (l0 : List Int) : Option (List Int) := bobbinref2_Norm.l0 k l0 (l0.length : Int)
set_option maxRecDepth 100000 in
theorem bobbinref2_Norm.calls (k : Nat) (A0 : Option Addr) (c0 : Nat) (l0 : List Int) (r : List Int) (w : World) (hr0 : Kd.C (Kd.int .u32) w A0 l0.length l0) (hc0 : l0.length ≤ c0) (h : bobbinref2_Norm.f k l0 = some r) :
  Calls Tryz.prog 77 #[.slice A0 l0.length c0] w fun e w' => ∃ v0_ : Value, e = .returned (v0_) ∧ Kd.R (Kd.int .u32) 119 w' w.heap.size (fun _ => True) v0_ r ∧ Below w.heap.size w w' := by
 have HR0 := md_ hr0
 have HC0 := md_ hc0
 clear hr0 hc0
 have HB := md_ (Below.refl w.heap.size w)
 have H : (bobbinref2_Norm.l0 k l0 (l0.length : Int)) = some r := h
 clear h
 have H' := md_ H
 clear H
 go_enter Tryz.func77, Tryz.ntmps77
 go_wp2
 go_loopg [3] k (fun kq v3 w' => ∃ (x3_1 : Int), v3 = .int .i64 x3_1 ∧ Aside0 (bobbinref2_Norm.l0 kq l0 x3_1 = some r) ∧ Aside0 (kq ≤ k) ∧ Aside0 (Below w.heap.size w w'))
 case atStart => exact ⟨((l0.length : Int)), aq_, H', ⟨Nat.le_refl _⟩, ⟨bq_ HB.out⟩⟩
 case round =>
  clear H'
  obtain ⟨x3_1, rfl, HA, HK1, HB⟩ := hrel
  cases gk with
  | zero => exact absurd HA.out (by simp [bobbinref2_Norm.l0])
  | succ k1 =>
   have H := HA.out
   clear HA
   simp only [bobbinref2_Norm.l0] at H
   by_cases c2 : x3_1 > 0
   ·rw [if_pos c2] at H
    have c2b0 : decide (0 < x3_1) = true := decide_eq_true c2
    clear c2
    obtain ⟨ji3, hji3⟩ : ∃ j_ : Int, (wrap64 (x3_1 - 1)) = j_ := ⟨_, rfl⟩
    first | rw [hji3] at H | simp only [hji3] at H
    have hji3w : (IntKind.i64.wrap (x3_1 - 1)) = ji3 := (i64_w _).trans hji3
    obtain ⟨c4b0, H⟩ := od_ H
    obtain ⟨c5b0, H⟩ := od_ H
    by_cases c6 : (rd l0 (ji3)) = 0
    ·rw [if_pos c6] at H
     have c6b0 : ((rd l0 (ji3)) == 0) = true := beq_iff_eq.mpr c6
     have c6b1 : ((rd l0 (ji3)) != 0) = false := bne_eq_false_iff_eq.mpr c6
     clear c6
     have H' := md_ H
     clear H
     have p139 : 0 ≤ ((ji3) : Int) := oq_
     have q139 : (ji3) < (l0.length : Int) := oq_
     obtain ⟨ad139, e139, hx139_0⟩ := Kd.at_int HR0.out (ji3) p139 q139
     cases e139
     replace hx139_0 := (HB.out.cell (World.block_lt_of_cell? w _ hx139_0)).trans hx139_0
     replace p139 := eq_true p139
     replace q139 := eq_true q139
     go_wp2
     go_roundg k1
     case measure => have := HK1.out; omega
     case rel => exact ⟨(ji3), (by first | rfl | (simp; done) | (simp only [← hji3] <;> (first | rfl | simp)) | (simp [*]; done)), H', ⟨by have := HK1.out; omega⟩, ⟨bq_ HB.out⟩⟩
    ·rw [if_neg c6] at H
     have c6b0 : ((rd l0 (ji3)) == 0) = false := beq_eq_false_iff_ne.mpr c6
     have c6b1 : ((rd l0 (ji3)) != 0) = true := bne_iff_ne.mpr c6
     obtain ⟨c7, H⟩ := oi_ H
     have c7b0 := eq_true c7
     have c7b1 : decide (0 ≤ x3_1) = true := decide_eq_true c7
     clear c7
     obtain ⟨c8, H⟩ := oi_ H
     have c8b0 := eq_true c8
     have c8b1 : decide (x3_1 ≤ (l0.length : Int)) = true := decide_eq_true c8
     clear c8
     obtain ⟨c9, H⟩ := oi_ H
     have LMc9 := md_ c9
     clear c9
     obtain ⟨y141, hy141⟩ : ∃ y_ : List Int, y_ = (([] : List Int) ++ (l0.take (x3_1 : Int).toNat)) := ⟨_, rfl⟩
     replace H : (some y141) = some r := by first | (rw [hy141]; with_reducible exact H) | (have H2_ := (Option.bind_some _ _).symm.trans H; rw [hy141]; with_reducible exact H2_) | (have H2_ := (Option.bind_some _ _).symm.trans H; with_reducible exact H2_) | with_reducible exact H | (rw [hy141]; exact H) | exact H
     have Ny141 := md_ hy141
     clear hy141
     obtain rfl := Option.some.inj H
     have p139 : 0 ≤ ((ji3) : Int) := oq_
     have q139 : (ji3) < (l0.length : Int) := oq_
     obtain ⟨ad139, e139, hx139_0⟩ := Kd.at_int HR0.out (ji3) p139 q139
     cases e139
     replace hx139_0 := (HB.out.cell (World.block_lt_of_cell? w _ hx139_0)).trans hx139_0
     replace p139 := eq_true p139
     replace q139 := eq_true q139
     obtain ⟨i010, hi010, _, hsz10, _⟩ := info_parts info119
     obtain ⟨hcut10, hA10, hC10⟩ := print_take_of (P := Tryz.prog) (Value.int .u32) 0 96 119 .i64 Tryz.underlying96 hi010 hsz10 (some ad139) c0 l0 x3_1 oq_ oq_ HC0.out
     have HR140 := md_ (Kd.C_of_reads (h1 := fun _ => rfl) (hA10 _ (Kd.reads_of_C HR0.out)))
     have HC140 := md_ hC10
     clear hA10 hC10 hi010 hsz10
     go_wp2_with (first | ((with_reducible refine gate_builtin (b := .append) (xs := #[.tmp 19, .tmp 22]) rfl ?_); at_builtin; refine Kd.R_append_rows (Kd.int .u32) (w0 := w) w.heap.size rfl (.tmp 19) (.tmp 22) 96 119 (.int .u32 0) 4 rfl Tryz.underlying96 info119 rfl (by decide) (by omega) (.slice none 0 0) ([] : List Int) (l0.take (x3_1 : Int).toNat) _ _ _ (fun _ => True) (fun _ => False) rfl rfl ?aO ?aR (fun _ _ h => h) (fun _ h => h.elim) ?aF ?aB ?aS ?aL ?_; (case aR => first | (rw [← show (l0.take (x3_1 : Int).toNat).length = x3_1.toNat from (by rw [List.length_take]; have h_ : (x3_1 : Int) ≤ (l0.length : Int) := oq_; omega)]; fail) | (refine ow_C_len (d := (Kd.int .u32)) (show (l0.take (x3_1 : Int).toNat).length = x3_1.toNat from (by rw [List.length_take]; have h_ : (x3_1 : Int) ≤ (l0.length : Int) := oq_; omega)) ?_; repeat (first | exact (Kd.C_below HR140.out HB.out) | (with_reducible refine Kd.C_alloc ?_ _) | (with_reducible refine Kd.C_drewN ?_ _) | (with_reducible refine Kd.C_drew ?_)))); (case aB => exact (bq_ HB.out)); (case aF => exact (fun _ _ => trivial)); (case aO => exact ((Kd.R_nil _ _ _ _ (fun _ => True)))); (case aS => exact (below_size (bq_ HB.out))); (case aL => have := LMc9.out; have hlx_ := (show (l0.take (x3_1 : Int).toNat).length = x3_1.toNat from (by rw [List.length_take]; have h_ : (x3_1 : Int) ≤ (l0.length : Int) := oq_; omega)); omega); intro v142 w11 ho hb hg hat; rw [← Ny141.out] at ho; replace HB := md_ (hb); have HO143 := md_ (ho); clear ho hb hg hat))
     go_ret
     exact ⟨_, by first | rfl | (simp [errW_none, errW_some] <;> rfl) | (simp only [← hji3]; first | rfl | (simp [errW_none, errW_some] <;> rfl)) | (simp [*, errW_none, errW_some] <;> rfl), rq_ HO143.out, bq_ HB.out⟩
   ·rw [if_neg c2] at H
    have c2b0 : decide (0 < x3_1) = false := decide_eq_false c2
    clear c2
    obtain ⟨c12, H⟩ := oi_ H
    have c12b0 := eq_true c12
    have c12b1 : decide (0 ≤ x3_1) = true := decide_eq_true c12
    clear c12
    obtain ⟨c13, H⟩ := oi_ H
    have c13b0 := eq_true c13
    have c13b1 : decide (x3_1 ≤ (l0.length : Int)) = true := decide_eq_true c13
    clear c13
    obtain ⟨c14, H⟩ := oi_ H
    have LMc14 := md_ c14
    clear c14
    obtain ⟨y145, hy145⟩ : ∃ y_ : List Int, y_ = (([] : List Int) ++ (l0.take (x3_1 : Int).toNat)) := ⟨_, rfl⟩
    replace H : (some y145) = some r := by first | (rw [hy145]; with_reducible exact H) | (have H2_ := (Option.bind_some _ _).symm.trans H; rw [hy145]; with_reducible exact H2_) | (have H2_ := (Option.bind_some _ _).symm.trans H; with_reducible exact H2_) | with_reducible exact H | (rw [hy145]; exact H) | exact H
    have Ny145 := md_ hy145
    clear hy145
    obtain rfl := Option.some.inj H
    obtain ⟨i015, hi015, _, hsz15, _⟩ := info_parts info119
    obtain ⟨hcut15, hA15, hC15⟩ := print_take_of (P := Tryz.prog) (Value.int .u32) 0 96 119 .i64 Tryz.underlying96 hi015 hsz15 A0 c0 l0 x3_1 oq_ oq_ HC0.out
    have HR144 := md_ (Kd.C_of_reads (h1 := fun _ => rfl) (hA15 _ (Kd.reads_of_C HR0.out)))
    have HC144 := md_ hC15
    clear hA15 hC15 hi015 hsz15
    go_wp2_with (first | ((with_reducible refine gate_builtin (b := .append) (xs := #[.tmp 19, .tmp 22]) rfl ?_); at_builtin; refine Kd.R_append_rows (Kd.int .u32) (w0 := w) w.heap.size rfl (.tmp 19) (.tmp 22) 96 119 (.int .u32 0) 4 rfl Tryz.underlying96 info119 rfl (by decide) (by omega) (.slice none 0 0) ([] : List Int) (l0.take (x3_1 : Int).toNat) _ _ _ (fun _ => True) (fun _ => False) rfl rfl ?aO ?aR (fun _ _ h => h) (fun _ h => h.elim) ?aF ?aB ?aS ?aL ?_; (case aR => first | (rw [← show (l0.take (x3_1 : Int).toNat).length = x3_1.toNat from (by rw [List.length_take]; have h_ : (x3_1 : Int) ≤ (l0.length : Int) := oq_; omega)]; fail) | (refine ow_C_len (d := (Kd.int .u32)) (show (l0.take (x3_1 : Int).toNat).length = x3_1.toNat from (by rw [List.length_take]; have h_ : (x3_1 : Int) ≤ (l0.length : Int) := oq_; omega)) ?_; repeat (first | exact (Kd.C_below HR144.out HB.out) | (with_reducible refine Kd.C_alloc ?_ _) | (with_reducible refine Kd.C_drewN ?_ _) | (with_reducible refine Kd.C_drew ?_)))); (case aB => exact (bq_ HB.out)); (case aF => exact (fun _ _ => trivial)); (case aO => exact ((Kd.R_nil _ _ _ _ (fun _ => True)))); (case aS => exact (below_size (bq_ HB.out))); (case aL => have := LMc14.out; have hlx_ := (show (l0.take (x3_1 : Int).toNat).length = x3_1.toNat from (by rw [List.length_take]; have h_ : (x3_1 : Int) ≤ (l0.length : Int) := oq_; omega)); omega); intro v146 w16 ho hb hg hat; rw [← Ny145.out] at ho; replace HB := md_ (hb); have HO147 := md_ (ho); clear ho hb hg hat))
    go_ret
    exact ⟨_, ew_, rq_ HO147.out, bq_ HB.out⟩
def bobbinref2_trimmed.l0 : Nat → List Int → Int → Option (List Int)
 | 0, _, _ => none
 | k + 1, x0, x3 => if x3 > 0 then (if 0 ≤ (wrap64 (x3 - 1)) then (if (wrap64 (x3 - 1)) < (x0.length : Int) then (if (rd x0 (wrap64 (x3 - 1))) = 0 then (bobbinref2_trimmed.l0 k x0 (wrap64 (x3 - 1))) else (if 0 ≤ x3 then (if x3 ≤ (x0.length : Int) then (some (x0.take (x3 : Int).toNat)) else (none)) else (none))) else (none)) else (none)) else (if 0 ≤ x3 then (if x3 ≤ (x0.length : Int) then (some (x0.take (x3 : Int).toNat)) else (none)) else (none))
def bobbinref2_trimmed.f (k : Nat) (l0 : List Int) : Option (List Int) := bobbinref2_trimmed.l0 k l0 (l0.length : Int)
set_option maxRecDepth 100000 in
theorem bobbinref2_trimmed.calls (k : Nat) (P0_ : Nat → Prop) (A0 : Option Addr) (c0 : Nat) (l0 : List Int) (r : List Int) (w : World) (hs0 : Kd.V (Kd.int .u32) 119 w w.heap.size (fun k_ => P0_ k_) (.slice A0 l0.length c0) l0) (h : bobbinref2_trimmed.f k l0 = some r) :
  Calls Tryz.prog 78 #[.slice A0 l0.length c0] w fun e w' => ∃ v0_ : Value, e = .returned (v0_) ∧ Kd.V (Kd.int .u32) 119 w' w.heap.size (fun k_ => (P0_ k_ ∨ w.heap.size ≤ k_)) v0_ r ∧ Below w.heap.size w w' := by
 have HO0 := md_ (show Kd.V (Kd.int .u32) 119 w w.heap.size (fun k_ => (P0_ k_ ∨ w.heap.size ≤ k_)) (.slice A0 l0.length c0) l0 from Kd.V_mono hs0 (fun k_ hk => .inl hk))
 have HB := md_ (Below.refl w.heap.size w)
 have H : (bobbinref2_trimmed.l0 k l0 (l0.length : Int)) = some r := h
 clear h
 have H' := md_ H
 clear H
 go_enter Tryz.func78, Tryz.ntmps78
 go_wp2
 go_loopg [3] k (fun kq v3 w' => ∃ (x3_1 : Int), v3 = .int .i64 x3_1 ∧ Aside0 (bobbinref2_trimmed.l0 kq l0 x3_1 = some r) ∧ Aside0 (kq ≤ k) ∧ Aside0 (Kd.V (Kd.int .u32) 119 w' w.heap.size (fun k_ => (P0_ k_ ∨ w.heap.size ≤ k_)) (.slice A0 l0.length c0) l0) ∧ Aside0 (Below w.heap.size w w'))
 case atStart => exact ⟨((l0.length : Int)), aq_, H', ⟨Nat.le_refl _⟩, ⟨vq_ HO0.out⟩, ⟨bq_ HB.out⟩⟩
 case round =>
  clear H'
  obtain ⟨x3_1, rfl, HA, HK1, HO_0, HB⟩ := hrel
  cases gk with
  | zero => exact absurd HA.out (by simp [bobbinref2_trimmed.l0])
  | succ k1 =>
   have H := HA.out
   clear HA
   simp only [bobbinref2_trimmed.l0] at H
   by_cases c2 : x3_1 > 0
   ·rw [if_pos c2] at H
    have c2b0 : decide (0 < x3_1) = true := decide_eq_true c2
    clear c2
    obtain ⟨ji3, hji3⟩ : ∃ j_ : Int, (wrap64 (x3_1 - 1)) = j_ := ⟨_, rfl⟩
    first | rw [hji3] at H | simp only [hji3] at H
    have hji3w : (IntKind.i64.wrap (x3_1 - 1)) = ji3 := (i64_w _).trans hji3
    obtain ⟨c4b0, H⟩ := od_ H
    obtain ⟨c5b0, H⟩ := od_ H
    by_cases c6 : (rd l0 (ji3)) = 0
    ·rw [if_pos c6] at H
     have c6b0 : ((rd l0 (ji3)) == 0) = true := beq_iff_eq.mpr c6
     have c6b1 : ((rd l0 (ji3)) != 0) = false := bne_eq_false_iff_eq.mpr c6
     clear c6
     have H' := md_ H
     clear H
     have p156 : 0 ≤ ((ji3) : Int) := oq_
     have q156 : (ji3) < (l0.length : Int) := oq_
     obtain ⟨ad156, e156, hx156_0⟩ := Kd.at_int (Kd.V_reads' HO_0.out).2.2 (ji3) p156 q156
     cases e156
     replace p156 := eq_true p156
     replace q156 := eq_true q156
     go_wp2
     go_roundg k1
     case measure => have := HK1.out; omega
     case rel => exact ⟨(ji3), (by first | rfl | (simp; done) | (simp only [← hji3] <;> (first | rfl | simp)) | (simp [*]; done)), H', ⟨by have := HK1.out; omega⟩, ⟨vq_ HO_0.out⟩, ⟨bq_ HB.out⟩⟩
    ·rw [if_neg c6] at H
     have c6b0 : ((rd l0 (ji3)) == 0) = false := beq_eq_false_iff_ne.mpr c6
     have c6b1 : ((rd l0 (ji3)) != 0) = true := bne_iff_ne.mpr c6
     obtain ⟨c7, H⟩ := oi_ H
     have c7b0 := eq_true c7
     have c7b1 : decide (0 ≤ x3_1) = true := decide_eq_true c7
     clear c7
     obtain ⟨c8, H⟩ := oi_ H
     have c8b0 := eq_true c8
     have c8b1 : decide (x3_1 ≤ (l0.length : Int)) = true := decide_eq_true c8
     clear c8
     obtain ⟨y157, hy157⟩ : ∃ y_ : List Int, y_ = (l0.take (x3_1 : Int).toNat) := ⟨_, rfl⟩
     replace H : (some y157) = some r := by first | (rw [hy157]; with_reducible exact H) | (have H2_ := (Option.bind_some _ _).symm.trans H; rw [hy157]; with_reducible exact H2_) | (have H2_ := (Option.bind_some _ _).symm.trans H; with_reducible exact H2_) | with_reducible exact H | (rw [hy157]; exact H) | exact H
     have Ny157 := md_ hy157
     clear hy157
     obtain rfl := Option.some.inj H
     have p156 : 0 ≤ ((ji3) : Int) := oq_
     have q156 : (ji3) < (l0.length : Int) := oq_
     obtain ⟨ad156, e156, hx156_0⟩ := Kd.at_int (Kd.V_reads' HO_0.out).2.2 (ji3) p156 q156
     cases e156
     replace p156 := eq_true p156
     replace q156 := eq_true q156
     have q9 : (x3_1 : Int) ≤ ((l0.length : Int) : Int) := oq_
     obtain ⟨i09, hi09, _, hsz9, _⟩ := info_parts info119
     have hroom9 : l0.length ≤ c0 := (Kd.V_reads' HO_0.out).2.1
     have hC9 : Kd.F (Kd.int .u32) _ _ (some ad156) l0.length l0 := (Kd.V_at (base := w.heap.size) HO_0.out).2.2
     have hcut9 := cut_to (P := Tryz.prog) 96 119 .i64 Tryz.underlying96 hi09 (some ad156) l0.length c0 x3_1 oq_ q9 hroom9
     have hr9 := Kd.F_take (m := (x3_1 : Int).toNat) hC9 (by omega)
     have hy9 : y157.length = (x3_1 : Int).toNat := (by rw [Ny157.out, List.length_take]; omega)
     rw [← Ny157.out] at hr9
     rw [← hy9] at hcut9
     have HO161 := md_ (show Kd.V (Kd.int .u32) 119 _ w.heap.size _ (.slice (some ad156) y157.length c0) y157 from Kd.V_mk (by omega) hr9)
     have HC161 := md_ (show y157.length ≤ c0 from by omega)
     clear hr9 hC9 hroom9 hi09 hsz9
     have KY9 := md_ hy9
     clear hy9
     replace q9 := eq_true q9
     go_wp2
     go_ret
     exact ⟨_, by first | rfl | (simp [errW_none, errW_some] <;> rfl) | (simp only [← hji3]; first | rfl | (simp [errW_none, errW_some] <;> rfl)) | (simp [*, errW_none, errW_some] <;> rfl), vq_ HO161.out, bq_ HB.out⟩
   ·rw [if_neg c2] at H
    have c2b0 : decide (0 < x3_1) = false := decide_eq_false c2
    clear c2
    obtain ⟨c10, H⟩ := oi_ H
    have c10b0 := eq_true c10
    have c10b1 : decide (0 ≤ x3_1) = true := decide_eq_true c10
    clear c10
    obtain ⟨c11, H⟩ := oi_ H
    have c11b0 := eq_true c11
    have c11b1 : decide (x3_1 ≤ (l0.length : Int)) = true := decide_eq_true c11
    clear c11
    obtain ⟨y162, hy162⟩ : ∃ y_ : List Int, y_ = (l0.take (x3_1 : Int).toNat) := ⟨_, rfl⟩
    replace H : (some y162) = some r := by first | (rw [hy162]; with_reducible exact H) | (have H2_ := (Option.bind_some _ _).symm.trans H; rw [hy162]; with_reducible exact H2_) | (have H2_ := (Option.bind_some _ _).symm.trans H; with_reducible exact H2_) | with_reducible exact H | (rw [hy162]; exact H) | exact H
    have Ny162 := md_ hy162
    clear hy162
    obtain rfl := Option.some.inj H
    have q12 : (x3_1 : Int) ≤ ((l0.length : Int) : Int) := oq_
    obtain ⟨i012, hi012, _, hsz12, _⟩ := info_parts info119
    have hroom12 : l0.length ≤ c0 := (Kd.V_reads' HO_0.out).2.1
    have hC12 : Kd.F (Kd.int .u32) _ _ A0 l0.length l0 := (Kd.V_at (base := w.heap.size) HO_0.out).2.2
    have hcut12 := cut_to (P := Tryz.prog) 96 119 .i64 Tryz.underlying96 hi012 A0 l0.length c0 x3_1 oq_ q12 hroom12
    have hr12 := Kd.F_take (m := (x3_1 : Int).toNat) hC12 (by omega)
    have hy12 : y162.length = (x3_1 : Int).toNat := (by rw [Ny162.out, List.length_take]; omega)
    rw [← Ny162.out] at hr12
    rw [← hy12] at hcut12
    have HO166 := md_ (show Kd.V (Kd.int .u32) 119 _ w.heap.size _ (.slice A0 y162.length c0) y162 from Kd.V_mk (by omega) hr12)
    have HC166 := md_ (show y162.length ≤ c0 from by omega)
    clear hr12 hC12 hroom12 hi012 hsz12
    have KY12 := md_ hy12
    clear hy12
    replace q12 := eq_true q12
    go_wp2
    go_ret
    exact ⟨_, ew_, vq_ HO166.out, bq_ HB.out⟩
end Go.Proofs.YtneepokiioefgaaGreatDoor.PNat
