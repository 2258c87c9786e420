/- The law NatBack answers true at every input, within its row's conditions. This is part 3 of 6: what the session's printing program wrote for the functions reached, and the session's own lemmas. -/
import Derived.Test.YtkihjfpfocnneaaDoorBack1
import Derived.Test.YtkihjfpfocnneaaDoorBack2
namespace Go.Proofs.YtkihjfpfocnneaaDoor.PNat
open Go.RowKit Go.Proofs.YtkihjfpfocnneaaDoorW.PrintWords Go.Proofs.YtkihjfpfocnneaaDoorW.PrintLast Go.Proofs.YtkihjfpfocnneaaDoorW.PrintMore
attribute [local go_sem] max2_int min2_int max_two min_two max_three min_three max_four min_four   -- for this text's walks alone
set_option linter.unusedVariables false
set_option linter.unusedSimpArgs false

def nat_Sub.l0 : Nat → List Int → List Int → Int → List Int → Int → Int → Option (List Int × Int)
  | 0, _, _, _, _, _, _ => none
  | k + 1, x1, x6, x7, x22, x23, x24 => if x24 < x23 then (if 0 ≤ x24 then (if x24 < (x22.length : Int) then (if x24 < (x1.length : Int) then ((bits_Sub32.f (rd x22 x24) (rd x1 x24) x7).bind fun bt403 => (if x24 < (x6.length : Int) then (nat_Sub.l0 k x1 (x6.set (x24 : Int).toNat bt403.1) bt403.2 x22 x23 (wrap64 (x24 + 1))) else (none))) else ((bits_Sub32.f (rd x22 x24) 0 x7).bind fun bt406 => (if x24 < (x6.length : Int) then (nat_Sub.l0 k x1 (x6.set (x24 : Int).toNat bt406.1) bt406.2 x22 x23 (wrap64 (x24 + 1))) else (none)))) else (none)) else (none)) else ((nat_trim.f k x6).bind fun t409 => (some (t409, 0)))
def nat_Sub.f (k : Nat) (l0 : List Int) (l1 : List Int) : Option (List Int × Int) := (nat_Compare.f k l0 l1).bind fun t391 => (if t391 < 0 then (some (([] : List Int), 1)) else ((nat_trim.f k l0).bind fun t392 => ((nat_trim.f k l1).bind fun t395 => (if 0 ≤ (t392.length : Int) then (if ((t392.length : Int) : Int).toNat ≤ 70368744177664 then (nat_Sub.l0 k t395 (List.replicate ((t392.length : Int) : Int).toNat 0) 0 t392 (t392.length : Int) 0) else (none)) else (none)))))
set_option maxHeartbeats 8000000 in
set_option maxRecDepth 100000 in
theorem nat_Sub.calls (k : Nat) (A0 : Option Addr) (c0 : Nat) (l0 : List Int) (A1 : Option Addr) (c1 : Nat) (l1 : List Int) (r1 : List Int) (r2 : Int) (w : World) (hr0 : Kd.C (Kd.int .u32) w A0 l0.length l0) (hc0 : l0.length ≤ c0) (hr1 : Kd.C (Kd.int .u32) w A1 l1.length l1) (hc1 : l1.length ≤ c1) (h : nat_Sub.f k l0 l1 = some (r1, r2)) :
    Calls Tryd.prog 22 #[.slice A0 l0.length c0, .slice A1 l1.length c1] w fun e w' => ∃ v0_ : Value, e = .returned (.tuple #[v0_, .int .i64 r2]) ∧ Kd.R (Kd.int .u32) 38 w' w.heap.size (fun _ => True) v0_ r1 ∧ Below w.heap.size w w' := by
  have HO0 := Aside0.mk (show Kd.V (Kd.int .u32) 38 w w.heap.size (fun k_ => ((k_ < w.heap.size ∨ k_ < w.heap.size) ∨ w.heap.size ≤ k_)) (.slice A0 l0.length c0) l0 from Kd.V_mono (Kd.V_mk hc0 (Kd.C_F (Kd.heap_int .u32) hr0) : Kd.V (Kd.int .u32) 38 w w.heap.size (fun k_ => k_ < w.heap.size) (.slice A0 l0.length c0) l0) (fun k_ hk => .inl (.inl hk)))
  have HO1 := Aside0.mk (show Kd.V (Kd.int .u32) 38 w w.heap.size (fun k_ => ((k_ < w.heap.size ∨ k_ < w.heap.size) ∨ w.heap.size ≤ k_)) (.slice A1 l1.length c1) l1 from Kd.V_mono (Kd.V_mk hc1 (Kd.C_F (Kd.heap_int .u32) hr1) : Kd.V (Kd.int .u32) 38 w w.heap.size (fun k_ => k_ < w.heap.size) (.slice A1 l1.length c1) l1) (fun k_ hk => .inl (.inr hk)))
  have HB := Aside0.mk (Below.refl w.heap.size w)
  have H : ((nat_Compare.f k l0 l1).bind fun t391 => (if t391 < 0 then (some (([] : List Int), 1)) else ((nat_trim.f k l0).bind fun t392 => ((nat_trim.f k l1).bind fun t395 => (if 0 ≤ (t392.length : Int) then (if ((t392.length : Int) : Int).toNat ≤ 70368744177664 then (nat_Sub.l0 k t395 (List.replicate ((t392.length : Int) : Int).toNat 0) 0 t392 (t392.length : Int) 0) else (none)) else (none)))))) = some (r1, r2) := h
  clear h
  replace H := Option.bind_eq_some_iff.mp H
  obtain ⟨t391, A30, H⟩ := H
  replace H : (if t391 < 0 then (some (([] : List Int), 1)) else ((nat_trim.f k l0).bind fun t392 => ((nat_trim.f k l1).bind fun t395 => (if 0 ≤ (t392.length : Int) then (if ((t392.length : Int) : Int).toNat ≤ 70368744177664 then (nat_Sub.l0 k t395 (List.replicate ((t392.length : Int) : Int).toNat 0) 0 t392 (t392.length : Int) 0) else (none)) else (none))))) = some (r1, r2) := H
  have A3 := Aside0.mk A30
  clear A30
  by_cases c4 : t391 < 0
  · rw [if_pos c4] at H
    have c4b0 : decide (t391 < 0) = true := decide_eq_true c4
    clear c4
    simp only [Option.some.injEq, Prod.mk.injEq] at H
    obtain ⟨rfl, rfl⟩ := H
    go_enter Tryd.func22, Tryd.ntmps22
    go_wp2_with (first | ((with_reducible refine gate_callee (f := 27) rfl ?_); refine goesL_ (some 13) rfl rfl Tryd.func27 (by kernel_rfl) rfl #[.slice A0 l0.length c0, .slice A1 l1.length c1] rfl gq ?_; (with_reducible refine (nat_Compare.calls k _ _ l0 _ _ l1 t391 _ ?side1 ?side2 ?side3 ?side4 A3.out).mono ?_); (case side1 => repeat (first | exact (Kd.V_reads' HO0.out).2.2 | (with_reducible refine Kd.C_alloc ?_ _) | (with_reducible refine Kd.C_drewN ?_ _) | (with_reducible refine Kd.C_drew ?_))); (case side2 => exact (Kd.V_reads' HO0.out).2.1); (case side3 => repeat (first | exact (Kd.V_reads' HO1.out).2.2 | (with_reducible refine Kd.C_alloc ?_ _) | (with_reducible refine Kd.C_drewN ?_ _) | (with_reducible refine Kd.C_drew ?_))); (case side4 => exact (Kd.V_reads' HO1.out).2.1); rintro e w5 ⟨rfl, hb⟩; refine ⟨_, rfl, ?_⟩; have n0_ := Aside0.mk (Kd.V_below (vq HO0.out) hb); have n1_ := Aside0.mk (Kd.V_below (vq HO1.out) hb); have n2_ := Aside0.mk (below_step (bq HB.out) hb); clear HO0; clear HO1; clear HB; have HO0 := n0_; have HO1 := n1_; have HB := n2_; clear n0_ n1_ n2_; (try clear hb); (try clear hi)))
    go_ret2
    exact ⟨_, eq_, Kd.R_nil _ _ _ _ _, bq HB.out⟩
  · rw [if_neg c4] at H
    have c4b0 : decide (t391 < 0) = false := decide_eq_false c4
    clear c4
    replace H := Option.bind_eq_some_iff.mp H
    obtain ⟨t392, A60, H⟩ := H
    replace H : ((nat_trim.f k l1).bind fun t395 => (if 0 ≤ (t392.length : Int) then (if ((t392.length : Int) : Int).toNat ≤ 70368744177664 then (nat_Sub.l0 k t395 (List.replicate ((t392.length : Int) : Int).toNat 0) 0 t392 (t392.length : Int) 0) else (none)) else (none))) = some (r1, r2) := H
    have A6 := Aside0.mk A60
    clear A60
    replace H := Option.bind_eq_some_iff.mp H
    obtain ⟨t395, A70, H⟩ := H
    replace H : (if 0 ≤ (t392.length : Int) then (if ((t392.length : Int) : Int).toNat ≤ 70368744177664 then (nat_Sub.l0 k t395 (List.replicate ((t392.length : Int) : Int).toNat 0) 0 t392 (t392.length : Int) 0) else (none)) else (none)) = some (r1, r2) := H
    have A7 := Aside0.mk A70
    clear A70
    by_cases c8 : 0 ≤ (t392.length : Int)
    · rw [if_pos c8] at H
      have c8b0 := eq_true c8
      have c8b1 : decide (0 ≤ (t392.length : Int)) = true := decide_eq_true c8
      clear c8
      by_cases c9 : ((t392.length : Int) : Int).toNat ≤ 70368744177664
      · rw [if_pos c9] at H
        have c9b0 := eq_true c9
        have c9b1 : decide (((t392.length : Int) : Int).toNat ≤ 70368744177664) = true := decide_eq_true c9
        clear c9
        obtain ⟨y398, hy398⟩ : ∃ y_ : List Int, y_ = (List.replicate ((t392.length : Int) : Int).toNat 0) := ⟨_, rfl⟩
        replace H : (nat_Sub.l0 k t395 y398 0 t392 (t392.length : Int) 0) = some (r1, r2) := by first | (rw [hy398]; with_reducible exact H) | (have H2_ := (Option.bind_some _ _).symm.trans H; rw [hy398]; with_reducible exact H2_) | (have H2_ := (Option.bind_some _ _).symm.trans H; with_reducible exact H2_) | with_reducible exact H | (rw [hy398]; exact H) | exact H
        have Ny398 := Aside0.mk hy398
        clear hy398
        have H' := Aside0.mk H
        clear H
        go_enter Tryd.func22, Tryd.ntmps22
        go_wp2_with (first | ((with_reducible refine gate_callee (f := 27) rfl ?_); refine goesL_ (some 13) rfl rfl Tryd.func27 (by kernel_rfl) rfl #[.slice A0 l0.length c0, .slice A1 l1.length c1] rfl gq ?_; (with_reducible refine (nat_Compare.calls k _ _ l0 _ _ l1 t391 _ ?side1 ?side2 ?side3 ?side4 A3.out).mono ?_); (case side1 => repeat (first | exact (Kd.V_reads' HO0.out).2.2 | (with_reducible refine Kd.C_alloc ?_ _) | (with_reducible refine Kd.C_drewN ?_ _) | (with_reducible refine Kd.C_drew ?_))); (case side2 => exact (Kd.V_reads' HO0.out).2.1); (case side3 => repeat (first | exact (Kd.V_reads' HO1.out).2.2 | (with_reducible refine Kd.C_alloc ?_ _) | (with_reducible refine Kd.C_drewN ?_ _) | (with_reducible refine Kd.C_drew ?_))); (case side4 => exact (Kd.V_reads' HO1.out).2.1); rintro e w10 ⟨rfl, hb⟩; refine ⟨_, rfl, ?_⟩; have n0_ := Aside0.mk (Kd.V_below (vq HO0.out) hb); have n1_ := Aside0.mk (Kd.V_below (vq HO1.out) hb); have n2_ := Aside0.mk (below_step (bq HB.out) hb); clear HO0; clear HO1; clear HB; have HO0 := n0_; have HO1 := n1_; have HB := n2_; clear n0_ n1_ n2_; (try clear hb); (try clear hk); (try clear hi)) | ((with_reducible refine gate_callee (f := 35) rfl ?_); refine goesL_ (some 16) rfl rfl Tryd.func35 (by kernel_rfl) rfl #[.slice A0 l0.length c0] rfl gq ?_; (with_reducible refine (nat_trim.calls k (fun k_ => ((k_ < w.heap.size ∨ k_ < w.heap.size) ∨ w.heap.size ≤ k_)) _ _ l0 t392 _ ?side1 A6.out).mono ?_); (case side1 => exact HO0.out); rintro e w11 ⟨v393, rfl, ho0, hb⟩; refine ⟨_, rfl, ?_⟩; have n0_ := Aside0.mk (Kd.V_below (vq HO0.out) hb); have n1_ := Aside0.mk (Kd.V_below (vq HO1.out) hb); have n2_ := Aside0.mk (Kd.V_lower (Kd.V_mono (ok' := fun k_ => ((k_ < w.heap.size ∨ k_ < w.heap.size) ∨ w.heap.size ≤ k_)) ho0 (fun k_ hk_ => Or.elim hk_ (fun hs_ => hs_) (fun hn_ => (.inr (Nat.le_trans (below_size (bq HB.out)) hn_))))) (below_size (bq HB.out))); have n3_ := Aside0.mk (below_step (bq HB.out) hb); clear HO0; clear HO1; clear HB; have HO0 := n0_; have HO1 := n1_; have HO394 := n2_; have HB := n3_; clear n0_ n1_ n2_ n3_; (try clear hb); (try clear hk); (try clear ho0)) | ((with_reducible refine gate_callee (f := 35) rfl ?_); refine goesL_ (some 18) rfl rfl Tryd.func35 (by kernel_rfl) rfl #[.slice A1 l1.length c1] rfl gq ?_; (with_reducible refine (nat_trim.calls k (fun k_ => ((k_ < w.heap.size ∨ k_ < w.heap.size) ∨ w.heap.size ≤ k_)) _ _ l1 t395 _ ?side1 A7.out).mono ?_); (case side1 => exact HO1.out); rintro e w12 ⟨v396, rfl, ho0, hb⟩; refine ⟨_, rfl, ?_⟩; have n0_ := Aside0.mk (Kd.V_below (vq HO0.out) hb); have n1_ := Aside0.mk (Kd.V_below (vq HO1.out) hb); have n2_ := Aside0.mk (Kd.V_below (vq HO394.out) hb); have n3_ := Aside0.mk (Kd.V_lower (Kd.V_mono (ok' := fun k_ => ((k_ < w.heap.size ∨ k_ < w.heap.size) ∨ w.heap.size ≤ k_)) ho0 (fun k_ hk_ => Or.elim hk_ (fun hs_ => hs_) (fun hn_ => (.inr (Nat.le_trans (below_size (bq HB.out)) hn_))))) (below_size (bq HB.out))); have n4_ := Aside0.mk (below_step (bq HB.out) hb); clear HO0; clear HO1; clear HO394; clear HB; have HO0 := n0_; have HO1 := n1_; have HO394 := n2_; have HO397 := n3_; have HB := n4_; clear n0_ n1_ n2_ n3_ n4_; (try clear hb); (try clear hk); (try clear ho0); obtain ⟨Ao13, co13, eo13⟩ := Kd.V_slice HO394.out; subst eo13) | ((with_reducible refine gate_dst (N := 21) rfl ?_); refine Kd.R_make (Kd.int .u32) _ 38 rfl (N := 21) rfl 23 _ _ rfl (t392.length : Int) rfl rfl Tryd.underlying23 (.int .u32 0) 4 info38 rfl (by decide) (by omega) 0 (ok := fun _ => True) (okp := fun _ => True) rfl (fun _ hk => hk) trivial oq (Nat.le_trans (Nat.mul_le_mul_right _ (oq : (t392.length : Int).toNat ≤ 70368744177664)) (by omega)) (Below.refl _ _) (Nat.le_refl _) ?_; intro v399 w14 ho15 hb hg_ hnew_; clear hg_ hnew_; (first | rw [← Ny398.out] at ho15 | (simp only [Int.reduceToNat] at ho15; rw [← Ny398.out] at ho15)); have n0_ := Aside0.mk (Kd.V_elder' (vq HO0.out) (Kd.R_base ho15) hb); have n1_ := Aside0.mk (Kd.V_elder' (vq HO1.out) (Kd.R_base ho15) hb); have n2_ := Aside0.mk (Kd.V_elder' (vq HO394.out) (Kd.R_base ho15) hb); have n3_ := Aside0.mk (Kd.V_elder' (vq HO397.out) (Kd.R_base ho15) hb); have n4_ := Aside0.mk (Kd.R_lower (Kd.R_newM (M := fun k_ => (w.heap.size ≤ k_)) ho15 (below_size (bq HB.out)) (fun k_ h_ => h_)) (below_size (bq HB.out))); have n5_ := Aside0.mk (below_step (bq HB.out) hb); clear HO0; clear HO1; clear HO394; clear HO397; clear HB; have HO0 := n0_; have HO1 := n1_; have HO394 := n2_; have HO397 := n3_; have HO400 := n4_; have HB := n5_; clear n0_ n1_ n2_ n3_ n4_ n5_; clear hb ho15))
        go_loopg [7, 24] k (fun kq v7 v24 w' => ∃ (x6_1 : List Int) (x7_1 : Int) (x24_1 : Int), v7 = .int .u32 x7_1 ∧ v24 = .int .i64 x24_1 ∧ Aside0 (nat_Sub.l0 kq t395 x6_1 x7_1 t392 (t392.length : Int) x24_1 = some (r1, r2)) ∧ Aside0 (kq ≤ k) ∧ Aside0 (Kd.V (Kd.int .u32) 38 w' w.heap.size (fun k_ => ((k_ < w.heap.size ∨ k_ < w.heap.size) ∨ w.heap.size ≤ k_) ∧ some k_ ≠ (v399 : Value).ownBlock) v396 t395) ∧ Aside0 (Kd.R (Kd.int .u32) 38 w' w.heap.size (fun k_ => (w.heap.size ≤ k_)) v399 x6_1) ∧ Aside0 (Kd.V (Kd.int .u32) 38 w' w.heap.size (fun k_ => ((k_ < w.heap.size ∨ k_ < w.heap.size) ∨ w.heap.size ≤ k_) ∧ some k_ ≠ (v399 : Value).ownBlock) (.slice Ao13 t392.length co13) t392) ∧ Aside0 (Below w.heap.size w w'))
        case atStart => exact ⟨(y398), (0), (0), aq, aq, H', ⟨Nat.le_refl _⟩, ⟨vq HO397.out⟩, ⟨by (with_reducible repeat (first | apply Kd.R_alloc | apply Kd.R_drewN | apply Kd.R_drew)); exact Kd.R_mono HO400.out (fun _ hk => hk.1)⟩, ⟨vq HO394.out⟩, ⟨bq HB.out⟩⟩
        case round =>
          clear H'
          try clear c1
          try clear c2
          try clear p2
          try clear c3
          try clear c4
          try clear c4b0
          try clear c8
          try clear c8b0
          try clear c8b1
          try clear c9
          try clear c9b0
          try clear c9b1
          obtain ⟨x6_1, x7_1, x24_1, rfl, rfl, HA, HK1, HO_1, HO_6, HO_22, HB⟩ := hrel
          cases gk with
          | zero => exact absurd HA.out (by simp [nat_Sub.l0])
          | succ k1 =>
            have H := HA.out
            clear HA
            simp only [nat_Sub.l0] at H
            by_cases c16 : x24_1 < (t392.length : Int)
            · rw [if_pos c16] at H
              have c16b0 : decide (x24_1 < (t392.length : Int)) = true := decide_eq_true c16
              clear c16
              by_cases c17 : 0 ≤ x24_1
              · rw [if_pos c17] at H
                have c17b0 : decide (0 ≤ x24_1) = true := decide_eq_true c17
                clear c17
                by_cases c18 : x24_1 < (t392.length : Int)
                · rw [if_pos c18] at H
                  have c18b0 : decide (x24_1 < (t392.length : Int)) = true := decide_eq_true c18
                  clear c18
                  by_cases c19 : x24_1 < (t395.length : Int)
                  · rw [if_pos c19] at H
                    have c19b0 : decide (x24_1 < (t395.length : Int)) = true := decide_eq_true c19
                    clear c19
                    replace H := Option.bind_eq_some_iff.mp H
                    obtain ⟨⟨t403, t404⟩, A200, H⟩ := H
                    replace H : (if x24_1 < (x6_1.length : Int) then (nat_Sub.l0 k1 t395 (x6_1.set (x24_1 : Int).toNat t403) t404 t392 (t392.length : Int) (wrap64 (x24_1 + 1))) else (none)) = some (r1, r2) := H
                    have A20 := Aside0.mk A200
                    clear A200
                    by_cases c21 : x24_1 < (x6_1.length : Int)
                    · rw [if_pos c21] at H
                      have c21b0 : decide (x24_1 < (x6_1.length : Int)) = true := decide_eq_true c21
                      clear c21
                      obtain ⟨y405, hy405⟩ : ∃ y_ : List Int, y_ = (x6_1.set (x24_1 : Int).toNat t403) := ⟨_, rfl⟩
                      replace H : (nat_Sub.l0 k1 t395 y405 t404 t392 (t392.length : Int) (wrap64 (x24_1 + 1))) = some (r1, r2) := by first | (rw [hy405]; with_reducible exact H) | (have H2_ := (Option.bind_some _ _).symm.trans H; rw [hy405]; with_reducible exact H2_) | (have H2_ := (Option.bind_some _ _).symm.trans H; with_reducible exact H2_) | with_reducible exact H | (rw [hy405]; exact H) | exact H
                      have Ny405 := Aside0.mk hy405
                      clear hy405
                      have H' := Aside0.mk H
                      clear H
                      have p401 : 0 ≤ (x24_1 : Int) := oq
                      have q401 : x24_1 < (t392.length : Int) := oq
                      obtain ⟨ad401, e401, hx401_0⟩ := Kd.at_int (Kd.V_reads' HO_22.out).2.2 x24_1 p401 q401
                      cases e401
                      replace p401 := eq_true p401
                      replace q401 := eq_true q401
                      obtain ⟨Ao23, co23, eo23⟩ := Kd.V_slice HO_1.out
                      subst eo23
                      have p402 : 0 ≤ (x24_1 : Int) := oq
                      have q402 : x24_1 < (t395.length : Int) := oq
                      obtain ⟨ad402, e402, hx402_0⟩ := Kd.at_int (Kd.V_reads' HO_1.out).2.2 x24_1 p402 q402
                      cases e402
                      replace p402 := eq_true p402
                      replace q402 := eq_true q402
                      go_wp2_with (first | ((with_reducible refine gate_callee (f := 46) rfl ?_); refine goesL_ (some 43) rfl rfl Tryd.func46 (by kernel_rfl) rfl #[.int .u32 (rd t392 x24_1), .int .u32 (rd t395 x24_1), .int .u32 x7_1] rfl gq ?_; (with_reducible refine (bits_Sub32.calls (rd t392 x24_1) (rd t395 x24_1) x7_1 t403 t404 _ A20.out).mono ?_); rintro e w' ⟨rfl, ⟨nd, rfl⟩⟩; refine ⟨_, rfl, ?_⟩; (try (rw [drewN_self wr]; generalize hq_ : World.drewN wr _ = wr; have n0_ : Aside0 (Kd.V (Kd.int .u32) 38 wr w.heap.size (fun k_ => ((k_ < w.heap.size ∨ k_ < w.heap.size) ∨ w.heap.size ≤ k_) ∧ some k_ ≠ (v399 : Value).ownBlock) (.slice (some ad402) t395.length co23) t395) := ⟨by rw [← hq_]; exact (vq HO_1.out)⟩; have n1_ : Aside0 (Kd.V (Kd.int .u32) 38 wr w.heap.size (fun k_ => ((k_ < w.heap.size ∨ k_ < w.heap.size) ∨ w.heap.size ≤ k_) ∧ some k_ ≠ (v399 : Value).ownBlock) (.slice (some ad401) t392.length co13) t392) := ⟨by rw [← hq_]; exact (vq HO_22.out)⟩; have n2_ : Aside0 (Kd.R (Kd.int .u32) 38 wr w.heap.size (fun k_ => (w.heap.size ≤ k_)) v399 x6_1) := ⟨by rw [← hq_]; exact (rq HO_6.out)⟩; have n3_ : Aside0 (Below w.heap.size w wr) := ⟨by rw [← hq_]; exact (bq HB.out)⟩; clear HO_1 HO_22 HO_6 HB hq_; have HO_1 := n0_; have HO_22 := n1_; have HO_6 := n2_; have HB := n3_; clear n0_ n1_ n2_ n3_)); have p22 : 0 ≤ (x24_1 : Int) := oq; have q22 : (x24_1 : Int) < ((x6_1.length : Int) : Int) := oq; obtain ⟨go22, co22, eo22, gb22, gl22, cl22, HG22⟩ := Kd.R_form HO_6.out (by omega); (first | cases eo22 | (injection eo22 with ea_ en_ ec_; (first | subst ea_ | (injection ea_ with ea_; subst ea_)); subst ec_; clear en_)); have GB22 := Aside0.mk gb22; have GG22 := Aside0.mk HG22; clear gb22 gl22 HG22; obtain ⟨hx22_0, hf22_0⟩ := Kd.R_celln 0 HO_6.out (x24_1 : Int) p22 q22; (try simp only [Int.toNat_natCast] at hx22_0); (try simp only [Int.toNat_natCast] at hf22_0); replace p22 := eq_true p22; replace q22 := eq_true q22; obtain ⟨hy24_, hz24_⟩ := Kd.R_celln 0 HO_6.out (x24_1 : Int) oq oq; have HP24 := Kd.R_putg HO_6.out (x24_1 : Int) t403) | ((with_reducible refine gate_store (t := 38) (p := 46) rfl ?_); refine store_event (t := 38) (p := 46) (v := ?vo_w25) (w1 := (wr.setCell ⟨go22, (x24_1 : Int).toNat, none⟩ (.int .u32 t403))) ?hg ?ho ?hn ?hr ?_; (case ho => rfl); (case hg => rfl); (case hn => rfl); (case hr => first | (go_simp; done) | (go_simp; rfl) | (obtain ⟨hx_, hf_⟩ := Kd.R_celln 0 HO_6.out (x24_1 : Int) oq oq; (try simp only [Int.toNat_natCast] at hx_); (try simp only [Int.toNat_natCast] at hf_); first | (go_simp; done) | (go_simp; rfl))); intro w25 hw; have hg : wr.grownBy w25 (some go22) := (by rw [hw]; exact HP24.2); have hp_ : Kd.R (Kd.int .u32) 38 w25 w.heap.size (fun k_ => (w.heap.size ≤ k_)) (.slice (some ⟨go22, 0, none⟩) x6_1.length co22) y405 := (by rw [hw, Ny405.out]; exact HP24.1); clear HP24; have n0_ := Aside0.mk (Kd.V_afterv (v := (.slice (some ⟨go22, 0, none⟩) x6_1.length co22)) (v1 := (.slice (some ⟨go22, 0, none⟩) x6_1.length co22)) (ok := (fun k_ => ((k_ < w.heap.size ∨ k_ < w.heap.size) ∨ w.heap.size ≤ k_))) (vq HO_1.out) hg (.inl rfl)); have n1_ := Aside0.mk (hp_); have n2_ := Aside0.mk (Kd.V_afterv (v := (.slice (some ⟨go22, 0, none⟩) x6_1.length co22)) (v1 := (.slice (some ⟨go22, 0, none⟩) x6_1.length co22)) (ok := (fun k_ => ((k_ < w.heap.size ∨ k_ < w.heap.size) ∨ w.heap.size ≤ k_))) (vq HO_22.out) hg (.inl rfl)); have n3_ := Aside0.mk ((by rw [hw]; exact below_set (HB.out) GB22.out : Below w.heap.size w w25)); clear HO_1; clear HO_6; clear HO_22; clear HB; have HO_1 := n0_; have HO_6 := n1_; have HO_22 := n2_; have HB := n3_; clear n0_ n1_ n2_ n3_; clear hg hw hp_))
                      go_roundg k1
                      case measure => have := HK1.out; omega
                      case rel => exact ⟨(y405), (t404), (wrap64 (x24_1 + 1)), aq, aq, H', ⟨by have := HK1.out; omega⟩, ⟨vq HO_1.out⟩, ⟨rq HO_6.out⟩, ⟨vq HO_22.out⟩, ⟨bq HB.out⟩⟩
                    · rw [if_neg c21] at H
                      exact absurd H (by simp)
                  · rw [if_neg c19] at H
                    have c19b0 : decide (x24_1 < (t395.length : Int)) = false := decide_eq_false c19
                    clear c19
                    replace H := Option.bind_eq_some_iff.mp H
                    obtain ⟨⟨t406, t407⟩, A260, H⟩ := H
                    replace H : (if x24_1 < (x6_1.length : Int) then (nat_Sub.l0 k1 t395 (x6_1.set (x24_1 : Int).toNat t406) t407 t392 (t392.length : Int) (wrap64 (x24_1 + 1))) else (none)) = some (r1, r2) := H
                    have A26 := Aside0.mk A260
                    clear A260
                    by_cases c27 : x24_1 < (x6_1.length : Int)
                    · rw [if_pos c27] at H
                      have c27b0 : decide (x24_1 < (x6_1.length : Int)) = true := decide_eq_true c27
                      clear c27
                      obtain ⟨y408, hy408⟩ : ∃ y_ : List Int, y_ = (x6_1.set (x24_1 : Int).toNat t406) := ⟨_, rfl⟩
                      replace H : (nat_Sub.l0 k1 t395 y408 t407 t392 (t392.length : Int) (wrap64 (x24_1 + 1))) = some (r1, r2) := by first | (rw [hy408]; with_reducible exact H) | (have H2_ := (Option.bind_some _ _).symm.trans H; rw [hy408]; with_reducible exact H2_) | (have H2_ := (Option.bind_some _ _).symm.trans H; with_reducible exact H2_) | with_reducible exact H | (rw [hy408]; exact H) | exact H
                      have Ny408 := Aside0.mk hy408
                      clear hy408
                      have H' := Aside0.mk H
                      clear H
                      have p401 : 0 ≤ (x24_1 : Int) := oq
                      have q401 : x24_1 < (t392.length : Int) := oq
                      obtain ⟨ad401, e401, hx401_0⟩ := Kd.at_int (Kd.V_reads' HO_22.out).2.2 x24_1 p401 q401
                      cases e401
                      replace p401 := eq_true p401
                      replace q401 := eq_true q401
                      obtain ⟨Ao29, co29, eo29⟩ := Kd.V_slice HO_1.out
                      subst eo29
                      go_wp2_with (first | ((with_reducible refine gate_callee (f := 46) rfl ?_); refine goesL_ (some 43) rfl rfl Tryd.func46 (by kernel_rfl) rfl #[.int .u32 (rd t392 x24_1), .int .u32 0, .int .u32 x7_1] rfl gq ?_; (with_reducible refine (bits_Sub32.calls (rd t392 x24_1) 0 x7_1 t406 t407 _ A26.out).mono ?_); rintro e w' ⟨rfl, ⟨nd, rfl⟩⟩; refine ⟨_, rfl, ?_⟩; (try (rw [drewN_self wr]; generalize hq_ : World.drewN wr _ = wr; have n0_ : Aside0 (Kd.V (Kd.int .u32) 38 wr w.heap.size (fun k_ => ((k_ < w.heap.size ∨ k_ < w.heap.size) ∨ w.heap.size ≤ k_) ∧ some k_ ≠ (v399 : Value).ownBlock) (.slice Ao29 t395.length co29) t395) := ⟨by rw [← hq_]; exact (vq HO_1.out)⟩; have n1_ : Aside0 (Kd.V (Kd.int .u32) 38 wr w.heap.size (fun k_ => ((k_ < w.heap.size ∨ k_ < w.heap.size) ∨ w.heap.size ≤ k_) ∧ some k_ ≠ (v399 : Value).ownBlock) (.slice (some ad401) t392.length co13) t392) := ⟨by rw [← hq_]; exact (vq HO_22.out)⟩; have n2_ : Aside0 (Kd.R (Kd.int .u32) 38 wr w.heap.size (fun k_ => (w.heap.size ≤ k_)) v399 x6_1) := ⟨by rw [← hq_]; exact (rq HO_6.out)⟩; have n3_ : Aside0 (Below w.heap.size w wr) := ⟨by rw [← hq_]; exact (bq HB.out)⟩; clear HO_1 HO_22 HO_6 HB hq_; have HO_1 := n0_; have HO_22 := n1_; have HO_6 := n2_; have HB := n3_; clear n0_ n1_ n2_ n3_)); have p28 : 0 ≤ (x24_1 : Int) := oq; have q28 : (x24_1 : Int) < ((x6_1.length : Int) : Int) := oq; obtain ⟨go28, co28, eo28, gb28, gl28, cl28, HG28⟩ := Kd.R_form HO_6.out (by omega); (first | cases eo28 | (injection eo28 with ea_ en_ ec_; (first | subst ea_ | (injection ea_ with ea_; subst ea_)); subst ec_; clear en_)); have GB28 := Aside0.mk gb28; have GG28 := Aside0.mk HG28; clear gb28 gl28 HG28; obtain ⟨hx28_0, hf28_0⟩ := Kd.R_celln 0 HO_6.out (x24_1 : Int) p28 q28; (try simp only [Int.toNat_natCast] at hx28_0); (try simp only [Int.toNat_natCast] at hf28_0); replace p28 := eq_true p28; replace q28 := eq_true q28; obtain ⟨hy30_, hz30_⟩ := Kd.R_celln 0 HO_6.out (x24_1 : Int) oq oq; have HP30 := Kd.R_putg HO_6.out (x24_1 : Int) t406) | ((with_reducible refine gate_store (t := 38) (p := 46) rfl ?_); refine store_event (t := 38) (p := 46) (v := ?vo_w31) (w1 := (wr.setCell ⟨go28, (x24_1 : Int).toNat, none⟩ (.int .u32 t406))) ?hg ?ho ?hn ?hr ?_; (case ho => rfl); (case hg => rfl); (case hn => rfl); (case hr => first | (go_simp; done) | (go_simp; rfl) | (obtain ⟨hx_, hf_⟩ := Kd.R_celln 0 HO_6.out (x24_1 : Int) oq oq; (try simp only [Int.toNat_natCast] at hx_); (try simp only [Int.toNat_natCast] at hf_); first | (go_simp; done) | (go_simp; rfl))); intro w31 hw; have hg : wr.grownBy w31 (some go28) := (by rw [hw]; exact HP30.2); have hp_ : Kd.R (Kd.int .u32) 38 w31 w.heap.size (fun k_ => (w.heap.size ≤ k_)) (.slice (some ⟨go28, 0, none⟩) x6_1.length co28) y408 := (by rw [hw, Ny408.out]; exact HP30.1); clear HP30; have n0_ := Aside0.mk (Kd.V_afterv (v := (.slice (some ⟨go28, 0, none⟩) x6_1.length co28)) (v1 := (.slice (some ⟨go28, 0, none⟩) x6_1.length co28)) (ok := (fun k_ => ((k_ < w.heap.size ∨ k_ < w.heap.size) ∨ w.heap.size ≤ k_))) (vq HO_1.out) hg (.inl rfl)); have n1_ := Aside0.mk (hp_); have n2_ := Aside0.mk (Kd.V_afterv (v := (.slice (some ⟨go28, 0, none⟩) x6_1.length co28)) (v1 := (.slice (some ⟨go28, 0, none⟩) x6_1.length co28)) (ok := (fun k_ => ((k_ < w.heap.size ∨ k_ < w.heap.size) ∨ w.heap.size ≤ k_))) (vq HO_22.out) hg (.inl rfl)); have n3_ := Aside0.mk ((by rw [hw]; exact below_set (HB.out) GB28.out : Below w.heap.size w w31)); clear HO_1; clear HO_6; clear HO_22; clear HB; have HO_1 := n0_; have HO_6 := n1_; have HO_22 := n2_; have HB := n3_; clear n0_ n1_ n2_ n3_; clear hg hw hp_))
                      go_roundg k1
                      case measure => have := HK1.out; omega
                      case rel => exact ⟨(y408), (t407), (wrap64 (x24_1 + 1)), aq, aq, H', ⟨by have := HK1.out; omega⟩, ⟨vq HO_1.out⟩, ⟨rq HO_6.out⟩, ⟨vq HO_22.out⟩, ⟨bq HB.out⟩⟩
                    · rw [if_neg c27] at H
                      exact absurd H (by simp)
                · rw [if_neg c18] at H
                  exact absurd H (by simp)
              · rw [if_neg c17] at H
                exact absurd H (by simp)
            · rw [if_neg c16] at H
              have c16b0 : decide (x24_1 < (t392.length : Int)) = false := decide_eq_false c16
              clear c16
              replace H := Option.bind_eq_some_iff.mp H
              obtain ⟨t409, A320, H⟩ := H
              replace H : (some (t409, 0)) = some (r1, r2) := H
              have A32 := Aside0.mk A320
              clear A320
              simp only [Option.some.injEq, Prod.mk.injEq] at H
              obtain ⟨rfl, rfl⟩ := H
              obtain ⟨Ao33, co33, eo33⟩ := Kd.R_slice HO_6.out
              subst eo33
              go_wp2_with (first | ((with_reducible refine gate_callee (f := 35) rfl ?_); refine goesL_ (some 49) rfl rfl Tryd.func35 (by kernel_rfl) rfl #[.slice Ao33 x6_1.length co33] rfl gq ?_; (with_reducible refine (nat_trim_told k1 _ _ x6_1 t409 _ ?side1 ?side2 A32.out).mono ?_); (case side1 => exact (Kd.R_reads' HO_6.out).2.2); (case side2 => exact Nat.le_trans (Nat.le_of_eq (Kd.R_reads' HO_6.out).1.symm) (Kd.R_reads' HO_6.out).2.1); rintro e w' ⟨rfl, rfl⟩; refine ⟨_, rfl, ?_⟩))
              go_ret2
              exact ⟨_, eq_, nat_trim_row A32.out (Kd.R_reads' HO_6.out).2.2 HO_6.out, bq HB.out⟩
      · rw [if_neg c9] at H
        exact absurd H (by simp)
    · rw [if_neg c8] at H
      exact absurd H (by simp)

end Go.Proofs.YtkihjfpfocnneaaDoor.PNat

namespace Go.Proofs.YtkihjfpfocnneaaDoor.PNat
open Go.RowKit Go.Proofs.YtkihjfpfocnneaaDoorW.PrintWords Go.Proofs.YtkihjfpfocnneaaDoorW.PrintLast Go.Proofs.YtkihjfpfocnneaaDoorW.PrintMore
attribute [local go_sem] max2_int min2_int max_two min_two max_three min_three max_four min_four   -- for this text's walks alone
set_option linter.unusedVariables false
set_option linter.unusedSimpArgs false

-- IMPORT Derived.Test.YtkihjfpfocnneaaDoorShelf
def bits_Len32.f (a0 : Int) : Option (Int) := if 0 ≤ a0 ∧ a0 ≤ 4294967295 then some ((Lib.bitLen a0.toNat : Nat) : Int) else none
theorem bits_Len32.calls (a0 : Int) (r : Int) (w : World) (h : bits_Len32.f a0 = some r) :
    Calls Tryd.prog 48 #[.int .u32 a0] w fun e w' => e = .returned (.int .i64 r) ∧ Drawn0 w w' := by
  unfold bits_Len32.f at h
  by_cases hc : 0 ≤ a0 ∧ a0 ≤ 4294967295
  · rw [if_pos hc] at h
    obtain rfl := Option.some.inj h
    exact (Tryd.bits_Len32 a0 w hc.1 hc.2).mono fun e w' ⟨h1, h2⟩ => ⟨h1, by subst h2; exact Drawn0.refl _⟩
  · rw [if_neg hc] at h
    exact absurd h (by simp)

end Go.Proofs.YtkihjfpfocnneaaDoor.PNat

namespace Go.Proofs.YtkihjfpfocnneaaDoor.PNat
open Go.RowKit Go.Proofs.YtkihjfpfocnneaaDoorW.PrintWords Go.Proofs.YtkihjfpfocnneaaDoorW.PrintLast Go.Proofs.YtkihjfpfocnneaaDoorW.PrintMore
attribute [local go_sem] max2_int min2_int max_two min_two max_three min_three max_four min_four   -- for this text's walks alone
set_option linter.unusedVariables false
set_option linter.unusedSimpArgs false

def nat_Bits.f (k : Nat) (l0 : List Int) : Option (Int) := (nat_trim.f k l0).bind fun t458 => (if (t458.length : Int) = 0 then (some 0) else (if 0 ≤ (wrap64 ((t458.length : Int) - 1)) then (if (wrap64 ((t458.length : Int) - 1)) < (t458.length : Int) then ((bits_Len32.f (rd t458 (wrap64 ((t458.length : Int) - 1)))).bind fun t462 => (some (wrap64 ((wrap64 ((wrap64 ((t458.length : Int) - 1)) * 32)) + t462)))) else (none)) else (none)))
set_option maxHeartbeats 8000000 in
set_option maxRecDepth 100000 in
theorem nat_Bits.calls (k : Nat) (A0 : Option Addr) (c0 : Nat) (l0 : List Int) (r : Int) (w : World) (hr0 : Kd.C (Kd.int .u32) w A0 l0.length l0) (hc0 : l0.length ≤ c0) (h : nat_Bits.f k l0 = some r) :
    Calls Tryd.prog 29 #[.slice A0 l0.length c0] w fun e w' => e = .returned (.int .i64 r) ∧ Below w.heap.size w w' := by
  have HR0 := Aside0.mk hr0
  have HC0 := Aside0.mk hc0
  clear hr0 hc0
  have HB := Aside0.mk (Below.refl w.heap.size w)
  have H : ((nat_trim.f k l0).bind fun t458 => (if (t458.length : Int) = 0 then (some 0) else (if 0 ≤ (wrap64 ((t458.length : Int) - 1)) then (if (wrap64 ((t458.length : Int) - 1)) < (t458.length : Int) then ((bits_Len32.f (rd t458 (wrap64 ((t458.length : Int) - 1)))).bind fun t462 => (some (wrap64 ((wrap64 ((wrap64 ((t458.length : Int) - 1)) * 32)) + t462)))) else (none)) else (none)))) = some r := h
  clear h
  replace H := Option.bind_eq_some_iff.mp H
  obtain ⟨t458, A20, H⟩ := H
  replace H : (if (t458.length : Int) = 0 then (some 0) else (if 0 ≤ (wrap64 ((t458.length : Int) - 1)) then (if (wrap64 ((t458.length : Int) - 1)) < (t458.length : Int) then ((bits_Len32.f (rd t458 (wrap64 ((t458.length : Int) - 1)))).bind fun t462 => (some (wrap64 ((wrap64 ((wrap64 ((t458.length : Int) - 1)) * 32)) + t462)))) else (none)) else (none))) = some r := H
  have A2 := Aside0.mk A20
  clear A20
  by_cases c3 : (t458.length : Int) = 0
  · rw [if_pos c3] at H
    have c3b0 : ((t458.length : Int) == 0) = true := beq_iff_eq.mpr c3
    have c3b1 : ((t458.length : Int) != 0) = false := bne_eq_false_iff_eq.mpr c3
    clear c3
    obtain rfl := Option.some.inj H
    go_enter Tryd.func29, Tryd.ntmps29
    go_wp2_with (first | ((with_reducible refine gate_callee (f := 35) rfl ?_); refine goesL_ (some 4) rfl rfl Tryd.func35 (by kernel_rfl) rfl #[.slice A0 l0.length c0] rfl gq ?_; (with_reducible refine (nat_trim.calls k (fun k_ => k_ < w.heap.size) _ _ l0 t458 _ ?side1 A2.out).mono ?_); (case side1 => exact Kd.V_mk HC0.out (Kd.F_below (Kd.C_F (Kd.heap_int .u32) HR0.out) (bq HB.out))); rintro e w4 ⟨v459, rfl, ho0, hb⟩; refine ⟨_, rfl, ?_⟩; have n0_ := Aside0.mk (Kd.V_lower (Kd.V_mono (ok' := fun k_ => True) ho0 (fun k_ hk_ => trivial)) (below_size (bq HB.out))); have n1_ := Aside0.mk (below_step (bq HB.out) hb); clear HB; have HO460 := n0_; have HB := n1_; clear n0_ n1_; (try clear hb); (try clear ho0); obtain ⟨Ao5, co5, eo5⟩ := Kd.V_slice HO460.out; subst eo5))
    go_ret
    exact ⟨eq_, bq HB.out⟩
  · rw [if_neg c3] at H
    have c3b0 : ((t458.length : Int) == 0) = false := beq_eq_false_iff_ne.mpr c3
    have c3b1 : ((t458.length : Int) != 0) = true := bne_iff_ne.mpr c3
    have c3b2 : ¬ (t458 = []) := fun h_ => c3 (by rw [h_]; rfl)
    obtain ⟨ji6, hji6⟩ : ∃ j_ : Int, (wrap64 ((t458.length : Int) - 1)) = j_ := ⟨_, rfl⟩
    replace H : (if 0 ≤ (ji6) then (if (ji6) < (t458.length : Int) then ((bits_Len32.f (rd t458 (ji6))).bind fun t462 => (some (wrap64 ((wrap64 ((ji6) * 32)) + t462)))) else (none)) else (none)) = some r := by first | (rw [hji6] at H; exact H) | (simp only [hji6] at H ⊢; exact H)
    (try rw [hji6] at A2)
    have hji6w : (IntKind.i64.wrap ((t458.length : Int) - 1)) = ji6 := (i64_w _).trans hji6
    by_cases c7 : 0 ≤ (ji6)
    · rw [if_pos c7] at H
      have c7b0 : decide (0 ≤ (ji6)) = true := decide_eq_true c7
      clear c7
      by_cases c8 : (ji6) < (t458.length : Int)
      · rw [if_pos c8] at H
        have c8b0 : decide ((ji6) < (t458.length : Int)) = true := decide_eq_true c8
        clear c8
        replace H := Option.bind_eq_some_iff.mp H
        obtain ⟨t462, A90, H⟩ := H
        replace H : (some (wrap64 ((wrap64 ((ji6) * 32)) + t462))) = some r := H
        have A9 := Aside0.mk A90
        clear A90
        obtain rfl := Option.some.inj H
        go_enter Tryd.func29, Tryd.ntmps29
        go_wp2_with (first | ((with_reducible refine gate_callee (f := 35) rfl ?_); refine goesL_ (some 4) rfl rfl Tryd.func35 (by kernel_rfl) rfl #[.slice A0 l0.length c0] rfl gq ?_; (with_reducible refine (nat_trim.calls k (fun k_ => k_ < w.heap.size) _ _ l0 t458 _ ?side1 A2.out).mono ?_); (case side1 => exact Kd.V_mk HC0.out (Kd.F_below (Kd.C_F (Kd.heap_int .u32) HR0.out) (bq HB.out))); rintro e w10 ⟨v459, rfl, ho0, hb⟩; refine ⟨_, rfl, ?_⟩; have n0_ := Aside0.mk (Kd.V_lower (Kd.V_mono (ok' := fun k_ => True) ho0 (fun k_ hk_ => trivial)) (below_size (bq HB.out))); have n1_ := Aside0.mk (below_step (bq HB.out) hb); clear HB; have HO460 := n0_; have HB := n1_; clear n0_ n1_; (try clear hb); (try clear ho0); obtain ⟨Ao11, co11, eo11⟩ := Kd.V_slice HO460.out; subst eo11; have p461 : 0 ≤ ((ji6) : Int) := oq; have q461 : (ji6) < (t458.length : Int) := oq; obtain ⟨ad461, e461, hx461_0⟩ := Kd.at_int (Kd.V_reads' HO460.out).2.2 (ji6) p461 q461; cases e461; replace p461 := eq_true p461; replace q461 := eq_true q461) | ((with_reducible refine gate_callee (f := 48) rfl ?_); refine goesL_ (some 18) rfl rfl Tryd.func48 (by kernel_rfl) rfl #[.int .u32 (rd t458 (ji6))] rfl (by (try simp only [List.map_toArray, List.map_cons, List.map_nil]); first | done | (simp only [hji6]; rfl) | rfl | (simp only [List.length_drop, List.length_take]; rfl)) ?_; (with_reducible refine (bits_Len32.calls (rd t458 (ji6)) t462 _ A9.out).mono ?_); rintro e w' ⟨rfl, ⟨nd, rfl⟩⟩; refine ⟨_, rfl, ?_⟩))
        go_ret
        exact ⟨by first | rfl | (simp [errW_none, errW_some] <;> rfl) | (simp only [← hji6]; first | rfl | (simp [errW_none, errW_some] <;> rfl)) | (simp [*, errW_none, errW_some] <;> rfl), bq HB.out⟩
      · rw [if_neg c8] at H
        exact absurd H (by simp)
    · rw [if_neg c7] at H
      exact absurd H (by simp)

end Go.Proofs.YtkihjfpfocnneaaDoor.PNat

namespace Go.Proofs.YtkihjfpfocnneaaDoor.PNat
open Go.RowKit Go.Proofs.YtkihjfpfocnneaaDoorW.PrintWords Go.Proofs.YtkihjfpfocnneaaDoorW.PrintLast Go.Proofs.YtkihjfpfocnneaaDoorW.PrintMore
attribute [local go_sem] max2_int min2_int max_two min_two max_three min_three max_four min_four   -- for this text's walks alone
set_option linter.unusedVariables false
set_option linter.unusedSimpArgs false

def nat_take.l0 : Nat → List Int → List Int → Int → Int → Int → List Int → Int → Int → Option (Bool × List Int)
  | 0, _, _, _, _, _, _, _, _ => none
  | k + 1, x0, x1, x2, x7, x8, x11, x12, x13 => if x13 < x12 then (if 0 ≤ x13 then (if x13 < (x11.length : Int) then (if x13 < (x0.length : Int) then ((bits_Sub32.f (rd x0 x13) ((IntKind.u64.wrap (x7 + (IntKind.u64.wrap (x2 * (IntKind.u64.wrap (rd x11 x13)))))) % 4294967296) x8).bind fun bt518 => (nat_take.l0 k (x0.set (x13 : Int).toNat bt518.1) x1 x2 ((IntKind.u64.wrap (x7 + (IntKind.u64.wrap (x2 * (IntKind.u64.wrap (rd x11 x13)))))) / 4294967296) bt518.2 x11 x12 (wrap64 (x13 + 1)))) else (none)) else (none)) else (none)) else (if 0 ≤ (x1.length : Int) then (if (x1.length : Int) < (x0.length : Int) then ((bits_Sub32.f (rd x0 (x1.length : Int)) ((x7) % 4294967296) x8).bind fun bt522 => (some ((bt522.2 != 0), (x0.set ((x1.length : Int) : Int).toNat bt522.1)))) else (none)) else (none))
def nat_take.f (k : Nat) (l0 : List Int) (l1 : List Int) (a2 : Int) : Option (Bool × List Int) := nat_take.l0 k l0 l1 a2 0 0 l1 (l1.length : Int) 0
end Go.Proofs.YtkihjfpfocnneaaDoor.PNat

namespace Go.Proofs.YtkihjfpfocnneaaDoor.PNat
open Go.RowKit Go.Proofs.YtkihjfpfocnneaaDoorW.PrintWords Go.Proofs.YtkihjfpfocnneaaDoorW.PrintLast Go.Proofs.YtkihjfpfocnneaaDoorW.PrintMore
attribute [local go_sem] max2_int min2_int max_two min_two max_three min_three max_four min_four   -- for this text's walks alone
set_option linter.unusedVariables false
set_option linter.unusedSimpArgs false

def nat_give.l0 : Nat → List Int → List Int → Int → List Int → Int → Int → Option (List Int)
  | 0, _, _, _, _, _, _ => none
  | k + 1, x0, x1, x4, x7, x8, x9 => if x9 < x8 then (if 0 ≤ x9 then (if x9 < (x7.length : Int) then (if x9 < (x0.length : Int) then ((bits_Add32.f (rd x0 x9) (rd x7 x9) x4).bind fun bt527 => (nat_give.l0 k (x0.set (x9 : Int).toNat bt527.1) x1 bt527.2 x7 x8 (wrap64 (x9 + 1)))) else (none)) else (none)) else (none)) else (if 0 ≤ (x1.length : Int) then (if (x1.length : Int) < (x0.length : Int) then (some (x0.set ((x1.length : Int) : Int).toNat (((rd x0 (x1.length : Int)) + x4) % 4294967296))) else (none)) else (none))
def nat_give.f (k : Nat) (l0 : List Int) (l1 : List Int) : Option (List Int) := nat_give.l0 k l0 l1 0 l1 (l1.length : Int) 0
end Go.Proofs.YtkihjfpfocnneaaDoor.PNat

namespace Go.Proofs.YtkihjfpfocnneaaDoor.PNat
open Go.RowKit Go.Proofs.YtkihjfpfocnneaaDoorW.PrintWords Go.Proofs.YtkihjfpfocnneaaDoorW.PrintLast Go.Proofs.YtkihjfpfocnneaaDoorW.PrintMore
attribute [local go_sem] max2_int min2_int max_two min_two max_three min_three max_four min_four   -- for this text's walks alone
set_option linter.unusedVariables false
set_option linter.unusedSimpArgs false
/-- words within a row of one's own: L ahead of them, T behind -/
def SR (g j cU : Nat) (L T : List Int) (w : World) (base : Nat) (ok : Nat → Prop) (v : Value) (xs : List Int) : Prop :=
  ∃ cap, v = .slice (some ⟨g, j, none⟩) xs.length cap ∧ xs.length ≤ cap ∧ L.length = j ∧ 0 < xs.length ∧ Kd.R (Kd.int .u32) 38 w base ok (.slice (some ⟨g, 0, none⟩) (L ++ xs ++ T).length cU) (L ++ xs ++ T)
section
variable {g j cU base : Nat} {L T : List Int} {w w1 : World} {ok ok' : Nat → Prop} {v : Value} {xs : List Int}
theorem S_slice (h : SR g j cU L T w base ok v xs) : ∃ c, v = .slice (some ⟨g, j, none⟩) xs.length c := by
  obtain ⟨c, e, _⟩ := h
  exact ⟨c, e⟩
theorem S_map (h : SR g j cU L T w base ok v xs) (hm : Kd.R (Kd.int .u32) 38 w base ok (.slice (some ⟨g, 0, none⟩) (L ++ xs ++ T).length cU) (L ++ xs ++ T) → Kd.R (Kd.int .u32) 38 w1 base ok' (.slice (some ⟨g, 0, none⟩) (L ++ xs ++ T).length cU) (L ++ xs ++ T)) : SR g j cU L T w1 base ok' v xs := by
  obtain ⟨c, e, hc, hj, h0, hR⟩ := h
  exact ⟨c, e, hc, hj, h0, hm hR⟩
theorem S_alloc (h : SR g j cU L T w base ok v xs) (o : Obj) : SR g j cU L T (w.alloc o) base ok v xs := S_map h fun hR => Kd.R_alloc hR o
theorem S_drew (h : SR g j cU L T w base ok v xs) : SR g j cU L T w.drew base ok v xs := S_map h fun hR => Kd.R_drew hR
theorem S_drewN (h : SR g j cU L T w base ok v xs) (m : Nat) : SR g j cU L T (w.drewN m) base ok v xs := S_map h fun hR => Kd.R_drewN hR m
theorem S_mono (h : SR g j cU L T w base ok v xs) (hok : ∀ k, ok k → ok' k) : SR g j cU L T w base ok' v xs := S_map h fun hR => Kd.R_mono hR hok
theorem SR.one (h : SR g j cU L T w base ok v xs) : ∀ k, v.ownBlock = some k → ok k := by
  obtain ⟨c, e, hc, hj, h0, hR⟩ := h
  intro k hk
  refine hR.1 k ?_
  rw [e] at hk
  simpa [Value.ownBlock] using hk
theorem S_form (h : SR g j cU L T w base ok v xs) : base ≤ g ∧ g < w.heap.size ∧ ∃ cells, w.heap[g]? = some (.cells cells 38 (0, 0)) := by
  obtain ⟨c, e, hc, hj, h0, hR⟩ := h
  obtain ⟨g', cap, e2, a, b, cl⟩ := Kd.R_form hR (by simp only [List.length_append]; omega)
  injection e2 with e3
  injection e3 with e3
  injection e3 with e4
  subst e4
  exact ⟨a, b, cl⟩
theorem sr_rd (h : L.length = j) (i : Int) (h0 : 0 ≤ i) (hi : i < xs.length) : rdOf 0 (L ++ xs ++ T) ((j : Int) + i) = rd xs i := by
  obtain ⟨n, rfl⟩ := Int.eq_ofNat_of_zero_le h0
  show (L ++ xs ++ T).getD ((j : Int) + (n : Int)).toNat 0 = xs.getD ((n : Int)).toNat 0
  rw [show ((j : Int) + (n : Int)).toNat = j + n by omega, Int.toNat_natCast, List.getD_eq_getElem?_getD, List.getD_eq_getElem?_getD, List.append_assoc, List.getElem?_append_right (by omega), h, Nat.add_sub_cancel_left, List.getElem?_append_left (by omega)]
theorem S_celln (h : SR g j cU L T w base ok v xs) (i : Int) (h0 : 0 ≤ i) (hi : i < xs.length) : w.cell? ⟨g, j + i.toNat, none⟩ = some (.int .u32 (rd xs i)) ∧ w.frozen? ⟨g, j + i.toNat, none⟩ = false := by
  obtain ⟨c, e, hc, hj, h1, hR⟩ := h
  have h2 := Kd.R_celln (h1 := fun _ => rfl) (enc := Value.int .u32) 0 hR ((j : Int) + i) (by omega) (by simp only [List.length_append]; omega)
  rw [sr_rd hj i h0 hi, show ((j : Int) + i).toNat = j + i.toNat by omega] at h2
  exact h2
theorem S_reads {A : Option Addr} {n c : Nat} (h : SR g j cU L T w base ok (.slice A n c) xs) : n = xs.length ∧ n ≤ c ∧ Kd.C (Kd.int .u32) w A xs.length xs := by
  obtain ⟨c', e, hc, hj, h1, hR⟩ := h
  injection e with e1 e2 e3
  subst e1 e2 e3
  refine ⟨rfl, hc, ?_⟩
  have hR2 := (Kd.R_reads' hR).2.2
  refine Kd.C_of_reads (enc := Value.int .u32) (d := (0 : Int)) (h1 := fun _ => rfl) ⟨rfl, ?_, fun hn => ⟨⟨g, j, none⟩, rfl, fun q hq => ?_⟩⟩
  · have := hR2.2.1
    simp only [List.length_append] at this
    omega
  · have h2 := (S_celln (v := .slice (some ⟨g, j, none⟩) xs.length c) ⟨c, rfl, hc, hj, h1, hR⟩ (q : Int) (by omega) (by omega)).1
    rw [Int.toNat_natCast] at h2
    rw [Addr.add_lit, h2]
    show some (Value.int .u32 (xs.getD ((q : Int)).toNat 0)) = _
    rw [Int.toNat_natCast]
theorem S_putg (h : SR g j cU L T w base ok v xs) (i : Int) (x : Int) (h0 : 0 ≤ i) (hi : i < xs.length) : SR g j cU L T (w.setCell ⟨g, j + i.toNat, none⟩ (.int .u32 x)) base ok v (xs.set i.toNat x) ∧ w.grownBy (w.setCell ⟨g, j + i.toNat, none⟩ (.int .u32 x)) (some g) := by
  obtain ⟨c, e, hc, hj, h1, hR⟩ := h
  have h2 := Kd.R_putg (h1 := fun _ => rfl) (enc := Value.int .u32) hR ((j : Int) + i) x
  have e2 : (L ++ xs ++ T).set ((j : Int) + i).toNat x = L ++ xs.set i.toNat x ++ T := by
    rw [show ((j : Int) + i).toNat = L.length + i.toNat by omega, List.append_assoc, List.set_append_right _ _ (by omega), Nat.add_sub_cancel_left, List.set_append_left _ _ (by omega), List.append_assoc]
  rw [e2, show ((j : Int) + i).toNat = j + i.toNat by omega] at h2
  refine ⟨⟨c, by rw [List.length_set]; exact e, by rw [List.length_set]; exact hc, hj, by rw [List.length_set]; exact h1, ?_⟩, h2.2⟩
  rw [show (L ++ xs.set i.toNat x ++ T).length = (L ++ xs ++ T).length by simp]
  exact h2.1
end
set_option maxHeartbeats 8000000 in
set_option maxRecDepth 100000 in
theorem take_sub (k : Nat) (P0_ : Nat → Prop) (g j cU : Nat) (L T : List Int) (u9000_ : Value) (l0 : List Int) (A1 : Option Addr) (c1 : Nat) (l1 : List Int) (a2 : Int) (r1 : Bool) (r2 : List Int) (w0 w : World) (hB : Below w0.heap.size w0 w) (ho0 : SR g j cU L T w w0.heap.size P0_ u9000_ l0) (hr1 : ∀ W_, Kept w W_ (fun k_ => P0_ k_) → Kd.C (Kd.int .u32) W_ A1 l1.length l1) (hc1 : l1.length ≤ c1) (h : nat_take.f k l0 l1 a2 = some (r1, r2)) :
    Calls Tryd.prog 52 #[u9000_, .slice A1 l1.length c1, .int .u64 a2] w fun e w' => e = .returned (.bool r1) ∧ SR g j cU L T w' w0.heap.size (fun k_ => (P0_ k_ ∨ w.heap.size ≤ k_)) u9000_ r2 ∧ Below w0.heap.size w0 w' ∧ Kept w w' (fun k_ => P0_ k_) := by
  have HO0 := Aside0.mk (show SR g j cU L T w w0.heap.size (fun k_ => (P0_ k_ ∨ w.heap.size ≤ k_)) u9000_ l0 from S_mono ho0 (fun k_ hk => (.inl hk)))
  have HR1 := Aside0.mk hr1
  have HC1 := Aside0.mk hc1
  clear hr1 hc1
  have HK := Aside0.mk (Kept.refl w (fun k_ => P0_ k_))
  have HW0 := Aside0.mk hB.size
  have HB := Aside0.mk hB
  clear hB
  have H : (nat_take.l0 k l0 l1 a2 0 0 l1 (l1.length : Int) 0) = some (r1, r2) := h
  clear h
  have H' := Aside0.mk H
  clear H
  go_enter Tryd.func52, Tryd.ntmps52
  go_wp2
  go_loopg [7, 8, 13] k (fun kq v7 v8 v13 w' => ∃ (x0_1 : List Int) (x7_1 : Int) (x8_1 : Int) (x13_1 : Int), v7 = .int .u64 x7_1 ∧ v8 = .int .u32 x8_1 ∧ v13 = .int .i64 x13_1 ∧ Aside0 (nat_take.l0 kq x0_1 l1 a2 x7_1 x8_1 l1 (l1.length : Int) x13_1 = some (r1, r2)) ∧ Aside0 (kq ≤ k) ∧ Aside0 (SR g j cU L T w' w0.heap.size (fun k_ => (P0_ k_ ∨ w.heap.size ≤ k_)) u9000_ x0_1) ∧ Aside0 (Kept w w' (fun k_ => P0_ k_)) ∧ Aside0 (Below w0.heap.size w0 w'))
  case atStart => exact ⟨(l0), (0), (0), (0), aq, aq, aq, H', ⟨Nat.le_refl _⟩, ⟨by (with_reducible repeat (first | apply S_alloc | apply S_drewN | apply S_drew)); exact HO0.out⟩, ⟨by repeat (first | (with_reducible first | exact HK.out | apply Kept.alloc | apply Kept.drewN | apply Kept.drew) | exact HK.out)⟩, ⟨bq HB.out⟩⟩
  case round =>
    clear H'
    try clear c1
    try clear p2
    obtain ⟨x0_1, x7_1, x8_1, x13_1, rfl, rfl, rfl, HA, HK1, HO_0, HK, HB⟩ := hrel
    cases gk with
    | zero => exact absurd HA.out (by simp [nat_take.l0])
    | succ k1 =>
      have H := HA.out
      clear HA
      simp only [nat_take.l0] at H
      by_cases c4 : x13_1 < (l1.length : Int)
      · rw [if_pos c4] at H
        have c4b0 : decide (x13_1 < (l1.length : Int)) = true := decide_eq_true c4
        clear c4
        by_cases c5 : 0 ≤ x13_1
        · rw [if_pos c5] at H
          have c5b0 : decide (0 ≤ x13_1) = true := decide_eq_true c5
          clear c5
          by_cases c6 : x13_1 < (l1.length : Int)
          · rw [if_pos c6] at H
            have c6b0 : decide (x13_1 < (l1.length : Int)) = true := decide_eq_true c6
            clear c6
            by_cases c7 : x13_1 < (x0_1.length : Int)
            · rw [if_pos c7] at H
              have c7b0 : decide (x13_1 < (x0_1.length : Int)) = true := decide_eq_true c7
              clear c7
              replace H := Option.bind_eq_some_iff.mp H
              obtain ⟨⟨t518, t519⟩, A80, H⟩ := H
              replace H : (nat_take.l0 k1 (x0_1.set (x13_1 : Int).toNat t518) l1 a2 ((IntKind.u64.wrap (x7_1 + (IntKind.u64.wrap (a2 * (IntKind.u64.wrap (rd l1 x13_1)))))) / 4294967296) t519 l1 (l1.length : Int) (wrap64 (x13_1 + 1))) = some (r1, r2) := H
              have A8 := Aside0.mk A80
              clear A80
              obtain ⟨y520, hy520⟩ : ∃ y_ : List Int, y_ = (x0_1.set (x13_1 : Int).toNat t518) := ⟨_, rfl⟩
              replace H : (nat_take.l0 k1 y520 l1 a2 ((IntKind.u64.wrap (x7_1 + (IntKind.u64.wrap (a2 * (IntKind.u64.wrap (rd l1 x13_1)))))) / 4294967296) t519 l1 (l1.length : Int) (wrap64 (x13_1 + 1))) = some (r1, r2) := by first | (rw [hy520]; with_reducible exact H) | (have H2_ := (Option.bind_some _ _).symm.trans H; rw [hy520]; with_reducible exact H2_) | (have H2_ := (Option.bind_some _ _).symm.trans H; with_reducible exact H2_) | with_reducible exact H | (rw [hy520]; exact H) | exact H
              have Ny520 := Aside0.mk hy520
              clear hy520
              have H' := Aside0.mk H
              clear H
              have p516 : 0 ≤ (x13_1 : Int) := oq
              have q516 : x13_1 < (l1.length : Int) := oq
              obtain ⟨ad516, e516, hx516_0⟩ := Kd.at_int (Kd.C_kept_now HR1.out HK.out) x13_1 p516 q516
              cases e516
              replace p516 := eq_true p516
              replace q516 := eq_true q516
              obtain ⟨co10, eo10⟩ := S_slice HO_0.out
              subst eo10
              have p517 : 0 ≤ (x13_1 : Int) := oq
              have q517 : x13_1 < (x0_1.length : Int) := oq
              obtain ⟨ad517, e517, hx517_0⟩ := Kd.at_int (S_reads HO_0.out).2.2 x13_1 p517 q517
              cases e517
              (try simp only [Addr.add_lit] at hx517_0)
              replace p517 := eq_true p517
              replace q517 := eq_true q517
              go_wp2_with (first | ((with_reducible refine gate_callee (f := 46) rfl ?_); refine goesL_ (some 34) rfl rfl Tryd.func46 (by kernel_rfl) rfl #[.int .u32 (rd x0_1 x13_1), .int .u32 ((IntKind.u64.wrap (x7_1 + (IntKind.u64.wrap (a2 * (IntKind.u64.wrap (rd l1 x13_1)))))) % 4294967296), .int .u32 x8_1] rfl gq ?_; (with_reducible refine (bits_Sub32.calls (rd x0_1 x13_1) ((IntKind.u64.wrap (x7_1 + (IntKind.u64.wrap (a2 * (IntKind.u64.wrap (rd l1 x13_1)))))) % 4294967296) x8_1 t518 t519 _ A8.out).mono ?_); rintro e w' ⟨rfl, ⟨nd, rfl⟩⟩; refine ⟨_, rfl, ?_⟩; (try (rw [drewN_self wr]; generalize hq_ : World.drewN wr _ = wr; have n0_ : Aside0 (SR g j cU L T wr w0.heap.size (fun k_ => (P0_ k_ ∨ w.heap.size ≤ k_)) (.slice (some ⟨g, j, none⟩) x0_1.length co10) x0_1) := ⟨by rw [← hq_]; exact (by (with_reducible repeat (first | apply S_alloc | apply S_drewN | apply S_drew)); exact HO_0.out)⟩; have n1_ : Aside0 (Kept w wr (fun k_ => P0_ k_)) := ⟨by rw [← hq_]; exact (by repeat (first | (with_reducible first | exact HK.out | apply Kept.alloc | apply Kept.drewN | apply Kept.drew) | exact HK.out))⟩; have n2_ : Aside0 (Below w0.heap.size w0 wr) := ⟨by rw [← hq_]; exact (bq HB.out)⟩; clear HO_0 HK HB hq_; have HO_0 := n0_; have HK := n1_; have HB := n2_; clear n0_ n1_ n2_)); have p9 : 0 ≤ (x13_1 : Int) := oq; have q9 : (x13_1 : Int) < ((x0_1.length : Int) : Int) := oq; obtain ⟨gb9, gl9, cl9, HG9⟩ := S_form HO_0.out; have GB9 := Aside0.mk gb9; have GG9 := Aside0.mk HG9; clear gb9 gl9 HG9; have HMgo9 := Aside0.mk (show (P0_ g ∨ w.heap.size ≤ g) from (SR.one HO_0.out _ rfl)); obtain ⟨hx9_0, hf9_0⟩ := S_celln HO_0.out (x13_1 : Int) p9 q9; (try simp only [Int.toNat_natCast] at hx9_0); (try simp only [Int.toNat_natCast] at hf9_0); replace p9 := eq_true p9; replace q9 := eq_true q9; obtain ⟨hy11_, hz11_⟩ := S_celln HO_0.out (x13_1 : Int) oq oq; have HP11 := S_putg HO_0.out (x13_1 : Int) t518 oq oq) | ((with_reducible refine gate_store (t := 38) (p := 37) rfl ?_); refine store_event (t := 38) (p := 37) (v := ?vo_w12) (w1 := (wr.setCell ⟨g, j + (x13_1 : Int).toNat, none⟩ (.int .u32 t518))) ?hg ?ho ?hn ?hr ?_; (case ho => rfl); (case hg => rfl); (case hn => rfl); (case hr => first | (go_simp; done) | (go_simp; rfl) | (obtain ⟨hx_, hf_⟩ := S_celln HO_0.out (x13_1 : Int) oq oq; (try simp only [Int.toNat_natCast] at hx_); (try simp only [Int.toNat_natCast] at hf_); first | (go_simp; done) | (go_simp; rfl))); intro w12 hw; have hg : wr.grownBy w12 (some g) := (by rw [hw]; exact HP11.2); have hp_ : SR g j cU L T w12 w0.heap.size (fun k_ => (P0_ k_ ∨ w.heap.size ≤ k_)) (.slice (some ⟨g, j, none⟩) x0_1.length co10) y520 := (by rw [hw, Ny520.out]; exact HP11.1); clear HP11; have n0_ := Aside0.mk (hp_); have n1_ := Aside0.mk ((by rw [hw]; exact below_set (HB.out) GB9.out : Below w0.heap.size w0 w12)); have n2_ := Aside0.mk (Kept.of_grown (S := (fun k_ => P0_ k_)) hg (by repeat (first | (with_reducible first | exact HK.out | apply Kept.alloc | apply Kept.drewN | apply Kept.drew) | exact HK.out)) (fun k_ e_ => (SR.one HO_0.out k_ e_))); clear HO_0; clear HB; clear HK; have HO_0 := n0_; have HB := n1_; have HK := n2_; clear n0_ n1_ n2_; clear hg hw hp_))
              go_roundg k1
              case measure => have := HK1.out; omega
              case rel => exact ⟨(y520), ((IntKind.u64.wrap (x7_1 + (IntKind.u64.wrap (a2 * (IntKind.u64.wrap (rd l1 x13_1)))))) / 4294967296), (t519), (wrap64 (x13_1 + 1)), aq, aq, aq, H', ⟨by have := HK1.out; omega⟩, ⟨by (with_reducible repeat (first | apply S_alloc | apply S_drewN | apply S_drew)); exact HO_0.out⟩, ⟨by repeat (first | (with_reducible first | exact HK.out | apply Kept.alloc | apply Kept.drewN | apply Kept.drew) | exact HK.out)⟩, ⟨bq HB.out⟩⟩
            · rw [if_neg c7] at H
              exact absurd H (by simp)
          · rw [if_neg c6] at H
            exact absurd H (by simp)
        · rw [if_neg c5] at H
          exact absurd H (by simp)
      · rw [if_neg c4] at H
        have c4b0 : decide (x13_1 < (l1.length : Int)) = false := decide_eq_false c4
        clear c4
        by_cases c13 : 0 ≤ (l1.length : Int)
        · rw [if_pos c13] at H
          have c13b0 : decide (0 ≤ (l1.length : Int)) = true := decide_eq_true c13
          have c13b1 : decide (0 ≤ l1.length) = true := decide_eq_true (by omega)
          clear c13
          by_cases c14 : (l1.length : Int) < (x0_1.length : Int)
          · rw [if_pos c14] at H
            have c14b0 : decide ((l1.length : Int) < (x0_1.length : Int)) = true := decide_eq_true c14
            have c14b1 : decide (l1.length < x0_1.length) = true := decide_eq_true (Int.ofNat_lt.mp c14)
            clear c14
            replace H := Option.bind_eq_some_iff.mp H
            obtain ⟨⟨t522, t523⟩, A150, H⟩ := H
            replace H : (some ((t523 != 0), (x0_1.set ((l1.length : Int) : Int).toNat t522))) = some (r1, r2) := H
            have A15 := Aside0.mk A150
            clear A150
            obtain ⟨y524, hy524⟩ : ∃ y_ : List Int, y_ = (x0_1.set ((l1.length : Int) : Int).toNat t522) := ⟨_, rfl⟩
            replace H : (some ((t523 != 0), y524)) = some (r1, r2) := by first | (rw [hy524]; with_reducible exact H) | (have H2_ := (Option.bind_some _ _).symm.trans H; rw [hy524]; with_reducible exact H2_) | (have H2_ := (Option.bind_some _ _).symm.trans H; with_reducible exact H2_) | with_reducible exact H | (rw [hy524]; exact H) | exact H
            have Ny524 := Aside0.mk hy524
            clear hy524
            simp only [Option.some.injEq, Prod.mk.injEq] at H
            obtain ⟨rfl, rfl⟩ := H
            obtain ⟨co17, eo17⟩ := S_slice HO_0.out
            subst eo17
            have p521 : 0 ≤ ((l1.length : Int) : Int) := oq
            have q521 : (l1.length : Int) < (x0_1.length : Int) := oq
            obtain ⟨ad521, e521, hx521_0⟩ := Kd.at_int (S_reads HO_0.out).2.2 (l1.length : Int) p521 q521
            cases e521
            (try simp only [Addr.add_lit] at hx521_0)
            (try simp only [Go.IntWalk.toNatUp] at hx521_0)
            replace p521 := eq_true p521
            replace q521 := eq_true q521
            go_wp2_with (first | ((with_reducible refine gate_callee (f := 46) rfl ?_); refine goesL_ (some 53) rfl rfl Tryd.func46 (by kernel_rfl) rfl #[.int .u32 (rd x0_1 (l1.length : Int)), .int .u32 ((x7_1) % 4294967296), .int .u32 x8_1] rfl gq ?_; (with_reducible refine (bits_Sub32.calls (rd x0_1 (l1.length : Int)) ((x7_1) % 4294967296) x8_1 t522 t523 _ A15.out).mono ?_); rintro e w' ⟨rfl, ⟨nd, rfl⟩⟩; refine ⟨_, rfl, ?_⟩; (try (rw [drewN_self wr]; generalize hq_ : World.drewN wr _ = wr; have n0_ : Aside0 (SR g j cU L T wr w0.heap.size (fun k_ => (P0_ k_ ∨ w.heap.size ≤ k_)) (.slice (some ⟨g, j, none⟩) x0_1.length co17) x0_1) := ⟨by rw [← hq_]; exact (by (with_reducible repeat (first | apply S_alloc | apply S_drewN | apply S_drew)); exact HO_0.out)⟩; have n1_ : Aside0 (Kept w wr (fun k_ => P0_ k_)) := ⟨by rw [← hq_]; exact (by repeat (first | (with_reducible first | exact HK.out | apply Kept.alloc | apply Kept.drewN | apply Kept.drew) | exact HK.out))⟩; have n2_ : Aside0 (Below w0.heap.size w0 wr) := ⟨by rw [← hq_]; exact (bq HB.out)⟩; clear HO_0 HK HB hq_; have HO_0 := n0_; have HK := n1_; have HB := n2_; clear n0_ n1_ n2_)); have p16 : 0 ≤ ((l1.length : Int) : Int) := oq; have q16 : ((l1.length : Int) : Int) < ((x0_1.length : Int) : Int) := oq; obtain ⟨gb16, gl16, cl16, HG16⟩ := S_form HO_0.out; have GB16 := Aside0.mk gb16; have GG16 := Aside0.mk HG16; clear gb16 gl16 HG16; have HMgo16 := Aside0.mk (show (P0_ g ∨ w.heap.size ≤ g) from (SR.one HO_0.out _ rfl)); obtain ⟨hx16_0, hf16_0⟩ := S_celln HO_0.out ((l1.length : Int) : Int) p16 q16; (try simp only [Int.toNat_natCast] at hx16_0); (try simp only [Int.toNat_natCast] at hf16_0); replace p16 := eq_true p16; replace q16 := eq_true q16; obtain ⟨hy18_, hz18_⟩ := S_celln HO_0.out ((l1.length : Int) : Int) oq oq; (try simp only [Go.IntWalk.toNatUp] at hy18_ hz18_); have HP18 := S_putg HO_0.out ((l1.length : Int) : Int) t522 oq oq) | ((with_reducible refine gate_store (t := 38) (p := 56) rfl ?_); refine store_event (t := 38) (p := 56) (v := ?vo_w19) (w1 := (wr.setCell ⟨g, j + ((l1.length : Int) : Int).toNat, none⟩ (.int .u32 t522))) ?hg ?ho ?hn ?hr ?_; (case ho => rfl); (case hg => rfl); (case hn => rfl); (case hr => first | (go_simp; done) | (go_simp; rfl) | (obtain ⟨hx_, hf_⟩ := S_celln HO_0.out ((l1.length : Int) : Int) oq oq; (try simp only [Int.toNat_natCast] at hx_); (try simp only [Int.toNat_natCast] at hf_); first | (go_simp; done) | (go_simp; rfl))); intro w19 hw; have hg : wr.grownBy w19 (some g) := (by rw [hw]; exact HP18.2); have hp_ : SR g j cU L T w19 w0.heap.size (fun k_ => (P0_ k_ ∨ w.heap.size ≤ k_)) (.slice (some ⟨g, j, none⟩) x0_1.length co17) y524 := (by rw [hw, Ny524.out]; exact HP18.1); clear HP18; have n0_ := Aside0.mk (hp_); have n1_ := Aside0.mk ((by rw [hw]; exact below_set (HB.out) GB16.out : Below w0.heap.size w0 w19)); have n2_ := Aside0.mk (Kept.of_grown (S := (fun k_ => P0_ k_)) hg (by repeat (first | (with_reducible first | exact HK.out | apply Kept.alloc | apply Kept.drewN | apply Kept.drew) | exact HK.out)) (fun k_ e_ => (SR.one HO_0.out k_ e_))); clear HO_0; clear HB; clear HK; have HO_0 := n0_; have HB := n1_; have HK := n2_; clear n0_ n1_ n2_; clear hg hw hp_))
            go_ret
            exact ⟨eq_, by (with_reducible repeat (first | apply S_alloc | apply S_drewN | apply S_drew)); exact HO_0.out, bq HB.out, by repeat (first | (with_reducible first | exact HK.out | apply Kept.alloc | apply Kept.drewN | apply Kept.drew) | exact HK.out)⟩
          · rw [if_neg c14] at H
            exact absurd H (by simp)
        · rw [if_neg c13] at H
          exact absurd H (by simp)

set_option maxHeartbeats 8000000 in
set_option maxRecDepth 100000 in
theorem give_sub (k : Nat) (P0_ : Nat → Prop) (g j cU : Nat) (L T : List Int) (u9000_ : Value) (l0 : List Int) (A1 : Option Addr) (c1 : Nat) (l1 : List Int) (r : List Int) (w0 w : World) (hB : Below w0.heap.size w0 w) (ho0 : SR g j cU L T w w0.heap.size P0_ u9000_ l0) (hr1 : ∀ W_, Kept w W_ (fun k_ => P0_ k_) → Kd.C (Kd.int .u32) W_ A1 l1.length l1) (hc1 : l1.length ≤ c1) (h : nat_give.f k l0 l1 = some r) :
    Calls Tryd.prog 53 #[u9000_, .slice A1 l1.length c1] w fun e w' => e = .returned (.tuple #[]) ∧ SR g j cU L T w' w0.heap.size (fun k_ => (P0_ k_ ∨ w.heap.size ≤ k_)) u9000_ r ∧ Below w0.heap.size w0 w' ∧ Kept w w' (fun k_ => P0_ k_) := by
  have HO0 := Aside0.mk (show SR g j cU L T w w0.heap.size (fun k_ => (P0_ k_ ∨ w.heap.size ≤ k_)) u9000_ l0 from S_mono ho0 (fun k_ hk => (.inl hk)))
  have HR1 := Aside0.mk hr1
  have HC1 := Aside0.mk hc1
  clear hr1 hc1
  have HK := Aside0.mk (Kept.refl w (fun k_ => P0_ k_))
  have HW0 := Aside0.mk hB.size
  have HB := Aside0.mk hB
  clear hB
  have H : (nat_give.l0 k l0 l1 0 l1 (l1.length : Int) 0) = some r := h
  clear h
  have H' := Aside0.mk H
  clear H
  go_enter Tryd.func53, Tryd.ntmps53
  go_wp2
  go_loopg [4, 9] k (fun kq v4 v9 w' => ∃ (x0_1 : List Int) (x4_1 : Int) (x9_1 : Int), v4 = .int .u32 x4_1 ∧ v9 = .int .i64 x9_1 ∧ Aside0 (nat_give.l0 kq x0_1 l1 x4_1 l1 (l1.length : Int) x9_1 = some r) ∧ Aside0 (kq ≤ k) ∧ Aside0 (SR g j cU L T w' w0.heap.size (fun k_ => (P0_ k_ ∨ w.heap.size ≤ k_)) u9000_ x0_1) ∧ Aside0 (Kept w w' (fun k_ => P0_ k_)) ∧ Aside0 (Below w0.heap.size w0 w'))
  case atStart => exact ⟨(l0), (0), (0), aq, aq, H', ⟨Nat.le_refl _⟩, ⟨by (with_reducible repeat (first | apply S_alloc | apply S_drewN | apply S_drew)); exact HO0.out⟩, ⟨by repeat (first | (with_reducible first | exact HK.out | apply Kept.alloc | apply Kept.drewN | apply Kept.drew) | exact HK.out)⟩, ⟨bq HB.out⟩⟩
  case round =>
    clear H'
    try clear c1
    try clear p2
    obtain ⟨x0_1, x4_1, x9_1, rfl, rfl, HA, HK1, HO_0, HK, HB⟩ := hrel
    cases gk with
    | zero => exact absurd HA.out (by simp [nat_give.l0])
    | succ k1 =>
      have H := HA.out
      clear HA
      simp only [nat_give.l0] at H
      by_cases c3 : x9_1 < (l1.length : Int)
      · rw [if_pos c3] at H
        have c3b0 : decide (x9_1 < (l1.length : Int)) = true := decide_eq_true c3
        clear c3
        by_cases c4 : 0 ≤ x9_1
        · rw [if_pos c4] at H
          have c4b0 : decide (0 ≤ x9_1) = true := decide_eq_true c4
          clear c4
          by_cases c5 : x9_1 < (l1.length : Int)
          · rw [if_pos c5] at H
            have c5b0 : decide (x9_1 < (l1.length : Int)) = true := decide_eq_true c5
            clear c5
            by_cases c6 : x9_1 < (x0_1.length : Int)
            · rw [if_pos c6] at H
              have c6b0 : decide (x9_1 < (x0_1.length : Int)) = true := decide_eq_true c6
              clear c6
              replace H := Option.bind_eq_some_iff.mp H
              obtain ⟨⟨t527, t528⟩, A70, H⟩ := H
              replace H : (nat_give.l0 k1 (x0_1.set (x9_1 : Int).toNat t527) l1 t528 l1 (l1.length : Int) (wrap64 (x9_1 + 1))) = some r := H
              have A7 := Aside0.mk A70
              clear A70
              obtain ⟨y529, hy529⟩ : ∃ y_ : List Int, y_ = (x0_1.set (x9_1 : Int).toNat t527) := ⟨_, rfl⟩
              replace H : (nat_give.l0 k1 y529 l1 t528 l1 (l1.length : Int) (wrap64 (x9_1 + 1))) = some r := by first | (rw [hy529]; with_reducible exact H) | (have H2_ := (Option.bind_some _ _).symm.trans H; rw [hy529]; with_reducible exact H2_) | (have H2_ := (Option.bind_some _ _).symm.trans H; with_reducible exact H2_) | with_reducible exact H | (rw [hy529]; exact H) | exact H
              have Ny529 := Aside0.mk hy529
              clear hy529
              have H' := Aside0.mk H
              clear H
              have p525 : 0 ≤ (x9_1 : Int) := oq
              have q525 : x9_1 < (l1.length : Int) := oq
              obtain ⟨ad525, e525, hx525_0⟩ := Kd.at_int (Kd.C_kept_now HR1.out HK.out) x9_1 p525 q525
              cases e525
              replace p525 := eq_true p525
              replace q525 := eq_true q525
              obtain ⟨co9, eo9⟩ := S_slice HO_0.out
              subst eo9
              have p526 : 0 ≤ (x9_1 : Int) := oq
              have q526 : x9_1 < (x0_1.length : Int) := oq
              obtain ⟨ad526, e526, hx526_0⟩ := Kd.at_int (S_reads HO_0.out).2.2 x9_1 p526 q526
              cases e526
              (try simp only [Addr.add_lit] at hx526_0)
              replace p526 := eq_true p526
              replace q526 := eq_true q526
              go_wp2_with (first | ((with_reducible refine gate_callee (f := 45) rfl ?_); refine goesL_ (some 23) rfl rfl Tryd.func45 (by kernel_rfl) rfl #[.int .u32 (rd x0_1 x9_1), .int .u32 (rd l1 x9_1), .int .u32 x4_1] rfl gq ?_; (with_reducible refine (bits_Add32.calls (rd x0_1 x9_1) (rd l1 x9_1) x4_1 t527 t528 _ A7.out).mono ?_); rintro e w' ⟨rfl, ⟨nd, rfl⟩⟩; refine ⟨_, rfl, ?_⟩; (try (rw [drewN_self wr]; generalize hq_ : World.drewN wr _ = wr; have n0_ : Aside0 (SR g j cU L T wr w0.heap.size (fun k_ => (P0_ k_ ∨ w.heap.size ≤ k_)) (.slice (some ⟨g, j, none⟩) x0_1.length co9) x0_1) := ⟨by rw [← hq_]; exact (by (with_reducible repeat (first | apply S_alloc | apply S_drewN | apply S_drew)); exact HO_0.out)⟩; have n1_ : Aside0 (Kept w wr (fun k_ => P0_ k_)) := ⟨by rw [← hq_]; exact (by repeat (first | (with_reducible first | exact HK.out | apply Kept.alloc | apply Kept.drewN | apply Kept.drew) | exact HK.out))⟩; have n2_ : Aside0 (Below w0.heap.size w0 wr) := ⟨by rw [← hq_]; exact (bq HB.out)⟩; clear HO_0 HK HB hq_; have HO_0 := n0_; have HK := n1_; have HB := n2_; clear n0_ n1_ n2_)); have p8 : 0 ≤ (x9_1 : Int) := oq; have q8 : (x9_1 : Int) < ((x0_1.length : Int) : Int) := oq; obtain ⟨gb8, gl8, cl8, HG8⟩ := S_form HO_0.out; have GB8 := Aside0.mk gb8; have GG8 := Aside0.mk HG8; clear gb8 gl8 HG8; have HMgo8 := Aside0.mk (show (P0_ g ∨ w.heap.size ≤ g) from (SR.one HO_0.out _ rfl)); obtain ⟨hx8_0, hf8_0⟩ := S_celln HO_0.out (x9_1 : Int) p8 q8; (try simp only [Int.toNat_natCast] at hx8_0); (try simp only [Int.toNat_natCast] at hf8_0); replace p8 := eq_true p8; replace q8 := eq_true q8; obtain ⟨hy10_, hz10_⟩ := S_celln HO_0.out (x9_1 : Int) oq oq; have HP10 := S_putg HO_0.out (x9_1 : Int) t527 oq oq) | ((with_reducible refine gate_store (t := 38) (p := 26) rfl ?_); refine store_event (t := 38) (p := 26) (v := ?vo_w11) (w1 := (wr.setCell ⟨g, j + (x9_1 : Int).toNat, none⟩ (.int .u32 t527))) ?hg ?ho ?hn ?hr ?_; (case ho => rfl); (case hg => rfl); (case hn => rfl); (case hr => first | (go_simp; done) | (go_simp; rfl) | (obtain ⟨hx_, hf_⟩ := S_celln HO_0.out (x9_1 : Int) oq oq; (try simp only [Int.toNat_natCast] at hx_); (try simp only [Int.toNat_natCast] at hf_); first | (go_simp; done) | (go_simp; rfl))); intro w11 hw; have hg : wr.grownBy w11 (some g) := (by rw [hw]; exact HP10.2); have hp_ : SR g j cU L T w11 w0.heap.size (fun k_ => (P0_ k_ ∨ w.heap.size ≤ k_)) (.slice (some ⟨g, j, none⟩) x0_1.length co9) y529 := (by rw [hw, Ny529.out]; exact HP10.1); clear HP10; have n0_ := Aside0.mk (hp_); have n1_ := Aside0.mk ((by rw [hw]; exact below_set (HB.out) GB8.out : Below w0.heap.size w0 w11)); have n2_ := Aside0.mk (Kept.of_grown (S := (fun k_ => P0_ k_)) hg (by repeat (first | (with_reducible first | exact HK.out | apply Kept.alloc | apply Kept.drewN | apply Kept.drew) | exact HK.out)) (fun k_ e_ => (SR.one HO_0.out k_ e_))); clear HO_0; clear HB; clear HK; have HO_0 := n0_; have HB := n1_; have HK := n2_; clear n0_ n1_ n2_; clear hg hw hp_))
              go_roundg k1
              case measure => have := HK1.out; omega
              case rel => exact ⟨(y529), (t528), (wrap64 (x9_1 + 1)), aq, aq, H', ⟨by have := HK1.out; omega⟩, ⟨by (with_reducible repeat (first | apply S_alloc | apply S_drewN | apply S_drew)); exact HO_0.out⟩, ⟨by repeat (first | (with_reducible first | exact HK.out | apply Kept.alloc | apply Kept.drewN | apply Kept.drew) | exact HK.out)⟩, ⟨bq HB.out⟩⟩
            · rw [if_neg c6] at H
              exact absurd H (by simp)
          · rw [if_neg c5] at H
            exact absurd H (by simp)
        · rw [if_neg c4] at H
          exact absurd H (by simp)
      · rw [if_neg c3] at H
        have c3b0 : decide (x9_1 < (l1.length : Int)) = false := decide_eq_false c3
        clear c3
        by_cases c12 : 0 ≤ (l1.length : Int)
        · rw [if_pos c12] at H
          have c12b0 : decide (0 ≤ (l1.length : Int)) = true := decide_eq_true c12
          have c12b1 : decide (0 ≤ l1.length) = true := decide_eq_true (by omega)
          clear c12
          by_cases c13 : (l1.length : Int) < (x0_1.length : Int)
          · rw [if_pos c13] at H
            have c13b0 : decide ((l1.length : Int) < (x0_1.length : Int)) = true := decide_eq_true c13
            have c13b1 : decide (l1.length < x0_1.length) = true := decide_eq_true (Int.ofNat_lt.mp c13)
            clear c13
            obtain ⟨y531, hy531⟩ : ∃ y_ : List Int, y_ = (x0_1.set ((l1.length : Int) : Int).toNat (((rd x0_1 (l1.length : Int)) + x4_1) % 4294967296)) := ⟨_, rfl⟩
            replace H : (some y531) = some r := by first | (rw [hy531]; with_reducible exact H) | (have H2_ := (Option.bind_some _ _).symm.trans H; rw [hy531]; with_reducible exact H2_) | (have H2_ := (Option.bind_some _ _).symm.trans H; with_reducible exact H2_) | with_reducible exact H | (rw [hy531]; exact H) | exact H
            have Ny531 := Aside0.mk hy531
            clear hy531
            obtain rfl := Option.some.inj H
            obtain ⟨co15, eo15⟩ := S_slice HO_0.out
            subst eo15
            have p530 : 0 ≤ ((l1.length : Int) : Int) := oq
            have q530 : (l1.length : Int) < (x0_1.length : Int) := oq
            obtain ⟨ad530, e530, hx530_0⟩ := Kd.at_int (S_reads HO_0.out).2.2 (l1.length : Int) p530 q530
            cases e530
            (try simp only [Addr.add_lit] at hx530_0)
            (try simp only [Go.IntWalk.toNatUp] at hx530_0)
            replace p530 := eq_true p530
            replace q530 := eq_true q530
            have p14 : 0 ≤ ((l1.length : Int) : Int) := oq
            have q14 : ((l1.length : Int) : Int) < ((x0_1.length : Int) : Int) := oq
            obtain ⟨gb14, gl14, cl14, HG14⟩ := S_form HO_0.out
            have GB14 := Aside0.mk gb14
            have GG14 := Aside0.mk HG14
            clear gb14 gl14 HG14
            have HMgo14 := Aside0.mk (show (P0_ g ∨ w.heap.size ≤ g) from (SR.one HO_0.out _ rfl))
            (first | simp only [add_plain] at hx530_0 | skip)
            obtain ⟨hx14_0, hf14_0⟩ := S_celln HO_0.out ((l1.length : Int) : Int) p14 q14
            (try simp only [Int.toNat_natCast] at hx14_0)
            (try simp only [Int.toNat_natCast] at hf14_0)
            replace p14 := eq_true p14
            replace q14 := eq_true q14
            have HP16 := S_putg HO_0.out ((l1.length : Int) : Int) (((rd x0_1 (l1.length : Int)) + x4_1) % 4294967296) oq oq
            go_wp2_with (first | ((with_reducible refine gate_store (t := 38) (p := 35) rfl ?_); refine store_event (t := 38) (p := 35) (v := ?vo_w17) (w1 := (wr.setCell ⟨g, j + ((l1.length : Int) : Int).toNat, none⟩ (.int .u32 (((rd x0_1 (l1.length : Int)) + x4_1) % 4294967296)))) ?hg ?ho ?hn ?hr ?_; (case ho => rfl); (case hg => rfl); (case hn => rfl); (case hr => first | (go_simp; done) | (go_simp; rfl) | (obtain ⟨hx_, hf_⟩ := S_celln HO_0.out ((l1.length : Int) : Int) oq oq; (try simp only [Int.toNat_natCast] at hx_); (try simp only [Int.toNat_natCast] at hf_); first | (go_simp; done) | (go_simp; rfl))); intro w17 hw; have hg : wr.grownBy w17 (some g) := (by rw [hw]; exact HP16.2); have hp_ : SR g j cU L T w17 w0.heap.size (fun k_ => (P0_ k_ ∨ w.heap.size ≤ k_)) (.slice (some ⟨g, j, none⟩) x0_1.length co15) y531 := (by rw [hw, Ny531.out]; exact HP16.1); clear HP16; have n0_ := Aside0.mk (hp_); have n1_ := Aside0.mk ((by rw [hw]; exact below_set (HB.out) GB14.out : Below w0.heap.size w0 w17)); have n2_ := Aside0.mk (Kept.of_grown (S := (fun k_ => P0_ k_)) hg (by repeat (first | (with_reducible first | exact HK.out | apply Kept.alloc | apply Kept.drewN | apply Kept.drew) | exact HK.out)) (fun k_ e_ => (SR.one HO_0.out k_ e_))); clear HO_0; clear HB; clear HK; have HO_0 := n0_; have HB := n1_; have HK := n2_; clear n0_ n1_ n2_; clear hg hw hp_))
            first | go_end0 | ((try simp only [Exit.inBlock, Exit.then]); refine bodyPost_ret (results_none rfl _ _ _) rfl ?_)
            exact ⟨eq_, by (with_reducible repeat (first | apply S_alloc | apply S_drewN | apply S_drew)); exact HO_0.out, bq HB.out, by repeat (first | (with_reducible first | exact HK.out | apply Kept.alloc | apply Kept.drewN | apply Kept.drew) | exact HK.out)⟩
          · rw [if_neg c13] at H
            exact absurd H (by simp)
        · rw [if_neg c12] at H
          exact absurd H (by simp)

end Go.Proofs.YtkihjfpfocnneaaDoor.PNat

namespace Go.Proofs.YtkihjfpfocnneaaDoor.PNat
open Go.RowKit Go.Proofs.YtkihjfpfocnneaaDoorW.PrintWords Go.Proofs.YtkihjfpfocnneaaDoorW.PrintLast Go.Proofs.YtkihjfpfocnneaaDoorW.PrintMore
set_option linter.unusedVariables false
set_option linter.unusedSimpArgs false
theorem cut_mid {P : Program} (t e : TypeId) (kl kh : IntKind) {i : TypeInfo} (ht : P.underlying t = some (.slice e)) (hi : P.info? e = some i) (hsz : i.size = 1) (ad : Addr) (n c : Nat) (l h : Int) (h0 : 0 ≤ l) (h1 : l < h) (h2 : h ≤ c) :
    ∀ W : World, (Instr.slice t (.slice (some ad) n c) (some (.int kl l)) (some (.int kh h)) none).run P W = .ok (.slice (some (ad.add l.toNat)) (h.toNat - l.toNat) (c - l.toNat)) W := by
  intro W
  have hel : P.elem t = e := by simp [Program.elem, ht]
  have hu : P.underlying t = some (.slice (P.elem t)) := by rw [hel]; exact ht
  rw [run_slice_lh W t (some ad) n c hu kl kh l h h0 (by omega) h2, hel]
  have h3 : ¬ c = l.toNat := by omega
  simp [sizeOf, typeInfo, hi, hsz, sliced, Result.andThen, h3]
def nat_takeAt.f (k : Nat) (U : List Int) (J nn : Int) (V : List Int) (d : Int) : Option (Bool × List Int) :=
  if 0 ≤ J then (if J < wrap64 (wrap64 (J + nn) + 1) then (if wrap64 (wrap64 (J + nn) + 1) ≤ (U.length : Int) then
    ((nat_take.f k ((U.take (wrap64 (wrap64 (J + nn) + 1)).toNat).drop J.toNat) V d).bind fun bt => some (bt.1, U.take J.toNat ++ bt.2 ++ U.drop (wrap64 (wrap64 (J + nn) + 1)).toNat)) else none) else none) else none
def nat_giveAt.f (k : Nat) (U : List Int) (J nn : Int) (V : List Int) : Option (List Int) :=
  if 0 ≤ J then (if J < wrap64 (wrap64 (J + nn) + 1) then (if wrap64 (wrap64 (J + nn) + 1) ≤ (U.length : Int) then
    ((nat_give.f k ((U.take (wrap64 (wrap64 (J + nn) + 1)).toNat).drop J.toNat) V).bind fun t => some (U.take J.toNat ++ t ++ U.drop (wrap64 (wrap64 (J + nn) + 1)).toNat)) else none) else none) else none
theorem nat_takeAt_split {k : Nat} {U : List Int} {J nn : Int} {V : List Int} {d : Int} {R : Bool × List Int} (h : nat_takeAt.f k U J nn V d = some R) :
    (0 ≤ J ∧ J < wrap64 (wrap64 (J + nn) + 1) ∧ wrap64 (wrap64 (J + nn) + 1) ≤ (U.length : Int)) ∧ ∃ b X, nat_take.f k ((U.take (wrap64 (wrap64 (J + nn) + 1)).toNat).drop J.toNat) V d = some (b, X) ∧ R = (b, U.take J.toNat ++ X ++ U.drop (wrap64 (wrap64 (J + nn) + 1)).toNat) := by
  unfold nat_takeAt.f at h
  by_cases h0 : 0 ≤ J
  · rw [if_pos h0] at h
    by_cases h1 : J < wrap64 (wrap64 (J + nn) + 1)
    · rw [if_pos h1] at h
      by_cases h2 : wrap64 (wrap64 (J + nn) + 1) ≤ (U.length : Int)
      · rw [if_pos h2] at h
        obtain ⟨⟨b, X⟩, hb, h⟩ := Option.bind_eq_some_iff.mp h
        exact ⟨⟨h0, h1, h2⟩, b, X, hb, (Option.some.inj h).symm⟩
      · rw [if_neg h2] at h; exact absurd h (by simp)
    · rw [if_neg h1] at h; exact absurd h (by simp)
  · rw [if_neg h0] at h; exact absurd h (by simp)
theorem nat_giveAt_split {k : Nat} {U : List Int} {J nn : Int} {V : List Int} {R : List Int} (h : nat_giveAt.f k U J nn V = some R) :
    (0 ≤ J ∧ J < wrap64 (wrap64 (J + nn) + 1) ∧ wrap64 (wrap64 (J + nn) + 1) ≤ (U.length : Int)) ∧ ∃ X, nat_give.f k ((U.take (wrap64 (wrap64 (J + nn) + 1)).toNat).drop J.toNat) V = some X ∧ R = U.take J.toNat ++ X ++ U.drop (wrap64 (wrap64 (J + nn) + 1)).toNat := by
  unfold nat_giveAt.f at h
  by_cases h0 : 0 ≤ J
  · rw [if_pos h0] at h
    by_cases h1 : J < wrap64 (wrap64 (J + nn) + 1)
    · rw [if_pos h1] at h
      by_cases h2 : wrap64 (wrap64 (J + nn) + 1) ≤ (U.length : Int)
      · rw [if_pos h2] at h
        obtain ⟨X, hb, h⟩ := Option.bind_eq_some_iff.mp h
        exact ⟨⟨h0, h1, h2⟩, X, hb, (Option.some.inj h).symm⟩
      · rw [if_neg h2] at h; exact absurd h (by simp)
    · rw [if_neg h1] at h; exact absurd h (by simp)
  · rw [if_neg h0] at h; exact absurd h (by simp)
theorem nat_takeAt_some {k : Nat} {U : List Int} {J nn : Int} {V : List Int} {d : Int} {R : Bool × List Int} (h : nat_takeAt.f k U J nn V d = some R) : 0 ≤ J ∧ J < wrap64 (wrap64 (J + nn) + 1) ∧ wrap64 (wrap64 (J + nn) + 1) ≤ (U.length : Int) := (nat_takeAt_split h).1
theorem nat_giveAt_some {k : Nat} {U : List Int} {J nn : Int} {V : List Int} {R : List Int} (h : nat_giveAt.f k U J nn V = some R) : 0 ≤ J ∧ J < wrap64 (wrap64 (J + nn) + 1) ∧ wrap64 (wrap64 (J + nn) + 1) ≤ (U.length : Int) := (nat_giveAt_split h).1
theorem nat_cutC {w : World} {A : Option Addr} {t y : List Int} {m : Nat} (hy : y = t.take m) (h : Kd.C (Kd.int .u32) w A t.length t) (hm : m ≤ t.length) : Kd.C (Kd.int .u32) w A y.length y := by
  subst hy
  exact Kd.C_take h hm
theorem nat_cutL {t y : List Int} {m : Nat} (hy : y = t.take m) : y.length ≤ t.length := by
  subst hy
  rw [List.length_take]
  omega
/-- what stands in a row of one's own, as three parts -/
theorem sr_of_R {w : World} {base n c : Nat} {ok : Nat → Prop} {ad : Addr} {U : List Int} {j h : Nat} (hR : Kd.R (Kd.int .u32) 38 w base ok (.slice (some ad) n c) U) (h1 : j < h) (h2 : h ≤ U.length) :
    ∃ g, ad = ⟨g, 0, none⟩ ∧ n = U.length ∧ U.length ≤ c ∧ SR g j c (U.take j) (U.drop h) w base ok (.slice (some ⟨g, j, none⟩) (h - j) (c - j)) ((U.take h).drop j) := by
  obtain ⟨g, cap, e, a, b, cl⟩ := Kd.R_form hR (by omega)
  obtain ⟨hn, hc, _⟩ := Kd.R_reads' hR
  injection e with e1 e2 e3
  injection e1 with e1
  subst e1 e3
  have hU : U.take j ++ (U.take h).drop j ++ U.drop h = U := by
    have h3 : U.take j = (U.take h).take j := by rw [List.take_take, Nat.min_eq_left (by omega)]
    rw [h3, List.take_append_drop, List.take_append_drop]
  have hl : ((U.take h).drop j).length = h - j := by rw [List.length_drop, List.length_take]; omega
  refine ⟨g, rfl, hn, by omega, c - j, by rw [hl], by rw [hl]; omega, by rw [List.length_take]; omega, by rw [hl]; omega, ?_⟩
  rw [hU, ← hn]
  exact hR
theorem R_of_sr {w : World} {base n c g j h : Nat} {ok : Nat → Prop} {U X : List Int} {v : Value} (hS : SR g j c (U.take j) (U.drop h) w base ok v X) (hX : X.length = h - j) (h1 : j < h) (h2 : h ≤ U.length) (hn : n = U.length) :
    Kd.R (Kd.int .u32) 38 w base ok (.slice (some ⟨g, 0, none⟩) n c) (U.take j ++ X ++ U.drop h) := by
  obtain ⟨cap, e, hc, hj, h3, hR⟩ := hS
  rw [show (U.take j ++ X ++ U.drop h).length = n by rw [List.length_append, List.length_append, List.length_take, List.length_drop, hX, hn]; omega] at hR
  exact hR
theorem nat_take_at (k : Nat) (P0_ : Nat → Prop) (ad : Addr) (n c : Nat) (U : List Int) (J nn : Int) (A1 : Option Addr) (c1 : Nat) (l1 : List Int) (a2 : Int) (r1 : Bool) (r2 : List Int) (w0 w : World) (H : Int) (hH : wrap64 (wrap64 (J + nn) + 1) = H) (hB : Below w0.heap.size w0 w) (ho0 : Kd.R (Kd.int .u32) 38 w w0.heap.size P0_ (.slice (some ad) n c) U) (hr1 : ∀ W_, Kept w W_ (fun k_ => P0_ k_) → Kd.C (Kd.int .u32) W_ A1 l1.length l1) (hc1 : l1.length ≤ c1) (h : nat_takeAt.f k U J nn l1 a2 = some (r1, r2)) :
    Calls Tryd.prog 52 #[.slice (some (ad.add J.toNat)) (H.toNat - J.toNat) (c - J.toNat), .slice A1 l1.length c1, .int .u64 a2] w fun e w' => e = .returned (.bool r1) ∧ Kd.R (Kd.int .u32) 38 w' w0.heap.size (fun k_ => (P0_ k_ ∨ w.heap.size ≤ k_)) (.slice (some ad) n c) r2 ∧ Below w0.heap.size w0 w' ∧ Kept w w' (fun k_ => P0_ k_) := by
  obtain ⟨⟨h0, h1, h2⟩, b, X, hX, hR⟩ := nat_takeAt_split h
  rw [hH] at h1 h2 hX hR
  obtain ⟨rfl, rfl⟩ := Prod.mk.inj hR
  obtain ⟨g, rfl, hn, hc, hS⟩ := sr_of_R ho0 (j := J.toNat) (h := H.toNat) (by omega) (by omega)
  rw [Addr.add_lit, Nat.zero_add]
  refine (take_sub k P0_ g J.toNat c (U.take J.toNat) (U.drop H.toNat) _ _ A1 c1 l1 a2 r1 X w0 w hB hS hr1 hc1 hX).mono ?_
  rintro e w' ⟨e1, hS', hb, hk⟩
  obtain ⟨c', hv⟩ := S_slice hS'
  injection hv with _ hv _
  exact ⟨e1, R_of_sr hS' hv.symm (by omega) (by omega) hn, hb, hk⟩
theorem nat_give_at (k : Nat) (P0_ : Nat → Prop) (ad : Addr) (n c : Nat) (U : List Int) (J nn : Int) (A1 : Option Addr) (c1 : Nat) (l1 : List Int) (r : List Int) (w0 w : World) (H : Int) (hH : wrap64 (wrap64 (J + nn) + 1) = H) (hB : Below w0.heap.size w0 w) (ho0 : Kd.R (Kd.int .u32) 38 w w0.heap.size P0_ (.slice (some ad) n c) U) (hr1 : ∀ W_, Kept w W_ (fun k_ => P0_ k_) → Kd.C (Kd.int .u32) W_ A1 l1.length l1) (hc1 : l1.length ≤ c1) (h : nat_giveAt.f k U J nn l1 = some r) :
    Calls Tryd.prog 53 #[.slice (some (ad.add J.toNat)) (H.toNat - J.toNat) (c - J.toNat), .slice A1 l1.length c1] w fun e w' => e = .returned (.tuple #[]) ∧ Kd.R (Kd.int .u32) 38 w' w0.heap.size (fun k_ => (P0_ k_ ∨ w.heap.size ≤ k_)) (.slice (some ad) n c) r ∧ Below w0.heap.size w0 w' ∧ Kept w w' (fun k_ => P0_ k_) := by
  obtain ⟨⟨h0, h1, h2⟩, X, hX, hR⟩ := nat_giveAt_split h
  rw [hH] at h1 h2 hX hR
  subst hR
  obtain ⟨g, rfl, hn, hc, hS⟩ := sr_of_R ho0 (j := J.toNat) (h := H.toNat) (by omega) (by omega)
  rw [Addr.add_lit, Nat.zero_add]
  refine (give_sub k P0_ g J.toNat c (U.take J.toNat) (U.drop H.toNat) _ _ A1 c1 l1 X w0 w hB hS hr1 hc1 hX).mono ?_
  rintro e w' ⟨e1, hS', hb, hk⟩
  obtain ⟨c', hv⟩ := S_slice hS'
  injection hv with _ hv _
  exact ⟨e1, R_of_sr hS' hv.symm (by omega) (by omega) hn, hb, hk⟩
end Go.Proofs.YtkihjfpfocnneaaDoor.PNat

namespace Go.Proofs.YtkihjfpfocnneaaDoor.PNat
open Go.RowKit Go.Proofs.YtkihjfpfocnneaaDoorW.PrintWords Go.Proofs.YtkihjfpfocnneaaDoorW.PrintLast Go.Proofs.YtkihjfpfocnneaaDoorW.PrintMore
attribute [local go_sem] max2_int min2_int max_two min_two max_three min_three max_four min_four   -- for this text's walks alone
set_option linter.unusedVariables false
set_option linter.unusedSimpArgs false

def nat_short.l0 : Nat → List Int → Int → List Int → Int → Int → Option (List Int × Int)
  | 0, _, _, _, _, _ => none
  | k + 1, x0, x1, x4, x5, x6 => if x6 ≥ 0 then (if 0 ≤ x6 then (if x6 < (x0.length : Int) then ((bits_Div32.f x5 (rd x0 x6) x1).bind fun bt511 => (if x6 < (x4.length : Int) then (nat_short.l0 k x0 x1 (x4.set (x6 : Int).toNat bt511.1) bt511.2 (wrap64 (x6 - 1))) else (none))) else (none)) else (none)) else (some (x4, x5))
def nat_short.f (k : Nat) (l0 : List Int) (a1 : Int) : Option (List Int × Int) := if 0 ≤ (l0.length : Int) then (if ((l0.length : Int) : Int).toNat ≤ 70368744177664 then (nat_short.l0 k l0 a1 (List.replicate ((l0.length : Int) : Int).toNat 0) 0 (wrap64 ((l0.length : Int) - 1))) else (none)) else (none)
set_option maxHeartbeats 8000000 in
set_option maxRecDepth 100000 in
theorem nat_short.calls (k : Nat) (A0 : Option Addr) (c0 : Nat) (l0 : List Int) (a1 : Int) (r1 : List Int) (r2 : Int) (w : World) (hr0 : Kd.C (Kd.int .u32) w A0 l0.length l0) (hc0 : l0.length ≤ c0) (h : nat_short.f k l0 a1 = some (r1, r2)) :
    Calls Tryd.prog 49 #[.slice A0 l0.length c0, .int .u32 a1] w fun e w' => ∃ v0_ : Value, e = .returned (.tuple #[v0_, .int .u32 r2]) ∧ Kd.R (Kd.int .u32) 38 w' w.heap.size (fun _ => True) v0_ r1 ∧ Below w.heap.size w w' := by
  have HR0 := Aside0.mk hr0
  have HC0 := Aside0.mk hc0
  clear hr0 hc0
  have HB := Aside0.mk (Below.refl w.heap.size w)
  have H : (if 0 ≤ (l0.length : Int) then (if ((l0.length : Int) : Int).toNat ≤ 70368744177664 then (nat_short.l0 k l0 a1 (List.replicate ((l0.length : Int) : Int).toNat 0) 0 (wrap64 ((l0.length : Int) - 1))) else (none)) else (none)) = some (r1, r2) := h
  clear h
  by_cases c3 : 0 ≤ (l0.length : Int)
  · rw [if_pos c3] at H
    have c3b0 := eq_true c3
    have c3b1 : decide (0 ≤ (l0.length : Int)) = true := decide_eq_true c3
    clear c3
    by_cases c4 : ((l0.length : Int) : Int).toNat ≤ 70368744177664
    · rw [if_pos c4] at H
      have c4b0 := eq_true c4
      have c4b1 : decide (((l0.length : Int) : Int).toNat ≤ 70368744177664) = true := decide_eq_true c4
      clear c4
      obtain ⟨y507, hy507⟩ : ∃ y_ : List Int, y_ = (List.replicate ((l0.length : Int) : Int).toNat 0) := ⟨_, rfl⟩
      replace H : (nat_short.l0 k l0 a1 y507 0 (wrap64 ((l0.length : Int) - 1))) = some (r1, r2) := by first | (rw [hy507]; with_reducible exact H) | (have H2_ := (Option.bind_some _ _).symm.trans H; rw [hy507]; with_reducible exact H2_) | (have H2_ := (Option.bind_some _ _).symm.trans H; with_reducible exact H2_) | with_reducible exact H | (rw [hy507]; exact H) | exact H
      have Ny507 := Aside0.mk hy507
      clear hy507
      have H' := Aside0.mk H
      clear H
      go_enter Tryd.func49, Tryd.ntmps49
      go_wp2_with (first | ((with_reducible refine gate_dst (N := 9) rfl ?_); refine Kd.R_make (Kd.int .u32) _ 38 rfl (N := 9) rfl 23 _ _ rfl (l0.length : Int) rfl rfl Tryd.underlying23 (.int .u32 0) 4 info38 rfl (by decide) (by omega) 0 (ok := fun _ => True) (okp := fun _ => True) rfl (fun _ hk => hk) trivial oq (Nat.le_trans (Nat.mul_le_mul_right _ (oq : (l0.length : Int).toNat ≤ 70368744177664)) (by omega)) (Below.refl _ _) (Nat.le_refl _) ?_; intro v508 w5 ho6 hb hg_ hnew_; clear hg_ hnew_; (first | rw [← Ny507.out] at ho6 | (simp only [Int.reduceToNat] at ho6; rw [← Ny507.out] at ho6)); have n0_ := Aside0.mk (Kd.R_lower ho6 (below_size (bq HB.out))); have n1_ := Aside0.mk (below_step (bq HB.out) hb); clear HB; have HO509 := n0_; have HB := n1_; clear n0_ n1_; clear hb ho6))
      go_loopg [5, 6] k (fun kq v5 v6 w' => ∃ (x4_1 : List Int) (x5_1 : Int) (x6_1 : Int), v5 = .int .u32 x5_1 ∧ v6 = .int .i64 x6_1 ∧ Aside0 (nat_short.l0 kq l0 a1 x4_1 x5_1 x6_1 = some (r1, r2)) ∧ Aside0 (kq ≤ k) ∧ Aside0 (Kd.R (Kd.int .u32) 38 w' w.heap.size (fun _ => True) v508 x4_1) ∧ Aside0 (Below w.heap.size w w'))
      case atStart => exact ⟨(y507), (0), (wrap64 ((l0.length : Int) - 1)), aq, aq, H', ⟨Nat.le_refl _⟩, ⟨rq HO509.out⟩, ⟨bq HB.out⟩⟩
      case round =>
        clear H'
        try clear p2
        try clear c3
        try clear c3b0
        try clear c3b1
        try clear c4
        try clear c4b0
        try clear c4b1
        try clear p6
        obtain ⟨x4_1, x5_1, x6_1, rfl, rfl, HA, HK1, HO_4, HB⟩ := hrel
        cases gk with
        | zero => exact absurd HA.out (by simp [nat_short.l0])
        | succ k1 =>
          have H := HA.out
          clear HA
          simp only [nat_short.l0] at H
          by_cases c7 : x6_1 ≥ 0
          · rw [if_pos c7] at H
            have c7b0 : decide (0 ≤ x6_1) = true := decide_eq_true c7
            clear c7
            by_cases c8 : 0 ≤ x6_1
            · rw [if_pos c8] at H
              have c8b0 : decide (0 ≤ x6_1) = true := decide_eq_true c8
              clear c8
              by_cases c9 : x6_1 < (l0.length : Int)
              · rw [if_pos c9] at H
                have c9b0 : decide (x6_1 < (l0.length : Int)) = true := decide_eq_true c9
                clear c9
                replace H := Option.bind_eq_some_iff.mp H
                obtain ⟨⟨t511, t512⟩, A100, H⟩ := H
                replace H : (if x6_1 < (x4_1.length : Int) then (nat_short.l0 k1 l0 a1 (x4_1.set (x6_1 : Int).toNat t511) t512 (wrap64 (x6_1 - 1))) else (none)) = some (r1, r2) := H
                have A10 := Aside0.mk A100
                clear A100
                by_cases c11 : x6_1 < (x4_1.length : Int)
                · rw [if_pos c11] at H
                  have c11b0 : decide (x6_1 < (x4_1.length : Int)) = true := decide_eq_true c11
                  clear c11
                  obtain ⟨y513, hy513⟩ : ∃ y_ : List Int, y_ = (x4_1.set (x6_1 : Int).toNat t511) := ⟨_, rfl⟩
                  replace H : (nat_short.l0 k1 l0 a1 y513 t512 (wrap64 (x6_1 - 1))) = some (r1, r2) := by first | (rw [hy513]; with_reducible exact H) | (have H2_ := (Option.bind_some _ _).symm.trans H; rw [hy513]; with_reducible exact H2_) | (have H2_ := (Option.bind_some _ _).symm.trans H; with_reducible exact H2_) | with_reducible exact H | (rw [hy513]; exact H) | exact H
                  have Ny513 := Aside0.mk hy513
                  clear hy513
                  have H' := Aside0.mk H
                  clear H
                  have p510 : 0 ≤ (x6_1 : Int) := oq
                  have q510 : x6_1 < (l0.length : Int) := oq
                  obtain ⟨ad510, e510, hx510_0⟩ := Kd.at_int HR0.out x6_1 p510 q510
                  cases e510
                  replace hx510_0 := (HB.out.cell (World.block_lt_of_cell? w _ hx510_0)).trans hx510_0
                  replace p510 := eq_true p510
                  replace q510 := eq_true q510
                  go_wp2_with (first | ((with_reducible refine gate_callee (f := 34) rfl ?_); refine goesL_ (some 26) rfl rfl Tryd.func34 (by kernel_rfl) rfl #[.int .u32 x5_1, .int .u32 (rd l0 x6_1), .int .u32 a1] rfl gq ?_; (with_reducible refine (bits_Div32.calls x5_1 (rd l0 x6_1) a1 t511 t512 _ A10.out).mono ?_); rintro e w' ⟨rfl, ⟨nd, rfl⟩⟩; refine ⟨_, rfl, ?_⟩; (try (rw [drewN_self wr]; generalize hq_ : World.drewN wr _ = wr; have n0_ : Aside0 (Kd.R (Kd.int .u32) 38 wr w.heap.size (fun _ => True) v508 x4_1) := ⟨by rw [← hq_]; exact (rq HO_4.out)⟩; have n1_ : Aside0 (Below w.heap.size w wr) := ⟨by rw [← hq_]; exact (bq HB.out)⟩; clear HO_4 HB hq_; have HO_4 := n0_; have HB := n1_; clear n0_ n1_)); have p12 : 0 ≤ (x6_1 : Int) := oq; have q12 : (x6_1 : Int) < ((x4_1.length : Int) : Int) := oq; obtain ⟨go12, co12, eo12, gb12, gl12, cl12, HG12⟩ := Kd.R_form HO_4.out (by omega); (first | cases eo12 | (injection eo12 with ea_ en_ ec_; (first | subst ea_ | (injection ea_ with ea_; subst ea_)); subst ec_; clear en_)); have GB12 := Aside0.mk gb12; have GG12 := Aside0.mk HG12; clear gb12 gl12 HG12; obtain ⟨hx12_0, hf12_0⟩ := Kd.R_celln 0 HO_4.out (x6_1 : Int) p12 q12; (try simp only [Int.toNat_natCast] at hx12_0); (try simp only [Int.toNat_natCast] at hf12_0); replace p12 := eq_true p12; replace q12 := eq_true q12; obtain ⟨hy13_, hz13_⟩ := Kd.R_celln 0 HO_4.out (x6_1 : Int) oq oq; have HP13 := Kd.R_putg HO_4.out (x6_1 : Int) t511) | ((with_reducible refine gate_store (t := 38) (p := 29) rfl ?_); refine store_event (t := 38) (p := 29) (v := ?vo_w14) (w1 := (wr.setCell ⟨go12, (x6_1 : Int).toNat, none⟩ (.int .u32 t511))) ?hg ?ho ?hn ?hr ?_; (case ho => rfl); (case hg => rfl); (case hn => rfl); (case hr => first | (go_simp; done) | (go_simp; rfl) | (obtain ⟨hx_, hf_⟩ := Kd.R_celln 0 HO_4.out (x6_1 : Int) oq oq; (try simp only [Int.toNat_natCast] at hx_); (try simp only [Int.toNat_natCast] at hf_); first | (go_simp; done) | (go_simp; rfl))); intro w14 hw; have hg : wr.grownBy w14 (some go12) := (by rw [hw]; exact HP13.2); have hp_ : Kd.R (Kd.int .u32) 38 w14 w.heap.size (fun _ => True) (.slice (some ⟨go12, 0, none⟩) x4_1.length co12) y513 := (by rw [hw, Ny513.out]; exact HP13.1); clear HP13; have n0_ := Aside0.mk (hp_); have n1_ := Aside0.mk ((by rw [hw]; exact below_set (HB.out) GB12.out : Below w.heap.size w w14)); clear HO_4; clear HB; have HO_4 := n0_; have HB := n1_; clear n0_ n1_; clear hg hw hp_))
                  go_roundg k1
                  case measure => have := HK1.out; omega
                  case rel => exact ⟨(y513), (t512), (wrap64 (x6_1 - 1)), aq, aq, H', ⟨by have := HK1.out; omega⟩, ⟨rq HO_4.out⟩, ⟨bq HB.out⟩⟩
                · rw [if_neg c11] at H
                  exact absurd H (by simp)
              · rw [if_neg c9] at H
                exact absurd H (by simp)
            · rw [if_neg c8] at H
              exact absurd H (by simp)
          · rw [if_neg c7] at H
            have c7b0 : decide (0 ≤ x6_1) = false := decide_eq_false c7
            clear c7
            simp only [Option.some.injEq, Prod.mk.injEq] at H
            obtain ⟨rfl, rfl⟩ := H
            go_wp2
            go_ret2
            exact ⟨_, eq_, rq HO_4.out, bq HB.out⟩
    · rw [if_neg c4] at H
      exact absurd H (by simp)
  · rw [if_neg c3] at H
    exact absurd H (by simp)

end Go.Proofs.YtkihjfpfocnneaaDoor.PNat

namespace Go.Proofs.YtkihjfpfocnneaaDoor.PNat
open Go.RowKit Go.Proofs.YtkihjfpfocnneaaDoorW.PrintWords Go.Proofs.YtkihjfpfocnneaaDoorW.PrintLast Go.Proofs.YtkihjfpfocnneaaDoorW.PrintMore
attribute [local go_sem] max2_int min2_int max_two min_two max_three min_three max_four min_four   -- for this text's walks alone
set_option linter.unusedVariables false
set_option linter.unusedSimpArgs false

-- IMPORT Derived.Test.YtkihjfpfocnneaaDoorShelf
def bits_LeadingZeros32.f (a0 : Int) : Option (Int) := if 0 ≤ a0 ∧ a0 ≤ 4294967295 then some (32 - ((Lib.bitLen a0.toNat : Nat) : Int)) else none
theorem bits_LeadingZeros32.calls (a0 : Int) (r : Int) (w : World) (h : bits_LeadingZeros32.f a0 = some r) :
    Calls Tryd.prog 50 #[.int .u32 a0] w fun e w' => e = .returned (.int .i64 r) ∧ Drawn0 w w' := by
  unfold bits_LeadingZeros32.f at h
  by_cases hc : 0 ≤ a0 ∧ a0 ≤ 4294967295
  · rw [if_pos hc] at h
    obtain rfl := Option.some.inj h
    exact (Tryd.bits_LeadingZeros32 a0 w hc.1 hc.2).mono fun e w' ⟨h1, h2⟩ => ⟨h1, by subst h2; exact Drawn0.refl _⟩
  · rw [if_neg hc] at h
    exact absurd h (by simp)

end Go.Proofs.YtkihjfpfocnneaaDoor.PNat

namespace Go.Proofs.YtkihjfpfocnneaaDoor.PNat
open Go.RowKit Go.Proofs.YtkihjfpfocnneaaDoorW.PrintWords Go.Proofs.YtkihjfpfocnneaaDoorW.PrintLast Go.Proofs.YtkihjfpfocnneaaDoorW.PrintMore
attribute [local go_sem] max2_int min2_int max_two min_two max_three min_three max_four min_four   -- for this text's walks alone
set_option linter.unusedVariables false
set_option linter.unusedSimpArgs false

def nat_guess.l0 : Nat → Int → Int → Int → Int → Int → Option (Int)
  | 0, _, _, _, _, _ => none
  | k + 1, x2, x3, x4, x13, x14 => if x14 < 4294967296 then (if (IntKind.u64.wrap (x13 * (IntKind.u64.wrap (x4)))) > (Go.bits .or .u64 (IntKind.u64.wrap (x14 * 4294967296)) (IntKind.u64.wrap (x2))) then (nat_guess.l0 k x2 x3 x4 (IntKind.u64.wrap (x13 - 1)) (IntKind.u64.wrap (x14 + (IntKind.u64.wrap (x3))))) else (some x13)) else (some x13)
def nat_guess.f (k : Nat) (a0 : Int) (a1 : Int) (a2 : Int) (a3 : Int) (a4 : Int) : Option (Int) := if a0 ≥ a3 then (some 4294967295) else ((bits_Div32.f a0 a1 a3).bind fun bt514 => (nat_guess.l0 k a2 a3 a4 (IntKind.u64.wrap (bt514.1)) (IntKind.u64.wrap (bt514.2))))
set_option maxHeartbeats 8000000 in
set_option maxRecDepth 100000 in
theorem nat_guess.calls (k : Nat) (a0 : Int) (a1 : Int) (a2 : Int) (a3 : Int) (a4 : Int) (r : Int) (w : World) (h : nat_guess.f k a0 a1 a2 a3 a4 = some r) :
    Calls Tryd.prog 51 #[.int .u32 a0, .int .u32 a1, .int .u32 a2, .int .u32 a3, .int .u32 a4] w fun e w' => e = .returned (.int .u64 r) ∧ Drawn0 w w' := by
  have H : (if a0 ≥ a3 then (some 4294967295) else ((bits_Div32.f a0 a1 a3).bind fun bt514 => (nat_guess.l0 k a2 a3 a4 (IntKind.u64.wrap (bt514.1)) (IntKind.u64.wrap (bt514.2))))) = some r := h
  clear h
  by_cases c6 : a0 ≥ a3
  · rw [if_pos c6] at H
    have c6b0 : decide (a3 ≤ a0) = true := decide_eq_true c6
    clear c6
    obtain rfl := Option.some.inj H
    go_enter Tryd.func51, Tryd.ntmps51
    go_wp2
    go_ret
    exact ⟨by first | rfl | (simp; done) | (simp [*]; done), by repeat (first | exact Drawn0.refl _ | apply Drawn0.step)⟩
  · rw [if_neg c6] at H
    have c6b0 : decide (a3 ≤ a0) = false := decide_eq_false c6
    clear c6
    replace H := Option.bind_eq_some_iff.mp H
    obtain ⟨⟨t514, t515⟩, A70, H⟩ := H
    replace H : (nat_guess.l0 k a2 a3 a4 (IntKind.u64.wrap (t514)) (IntKind.u64.wrap (t515))) = some r := H
    have A7 := Aside0.mk A70
    clear A70
    have H' := Aside0.mk H
    clear H
    go_enter Tryd.func51, Tryd.ntmps51
    go_wp2_with (first | ((with_reducible refine gate_callee (f := 34) rfl ?_); refine goesL_ (some 22) rfl rfl Tryd.func34 (by kernel_rfl) rfl #[.int .u32 a0, .int .u32 a1, .int .u32 a3] rfl gq ?_; (with_reducible refine (bits_Div32.calls a0 a1 a3 t514 t515 _ A7.out).mono ?_); rintro e w' ⟨rfl, ⟨nd, rfl⟩⟩; refine ⟨_, rfl, ?_⟩))
    go_loopg [13, 14] k (fun kq v13 v14 w' => ∃ (x13_1 : Int) (x14_1 : Int), v13 = .int .u64 x13_1 ∧ v14 = .int .u64 x14_1 ∧ Aside0 (nat_guess.l0 kq a2 a3 a4 x13_1 x14_1 = some r) ∧ Aside0 (kq ≤ k) ∧ Drawn0 w w')
    case atStart => exact ⟨(IntKind.u64.wrap (t514)), (IntKind.u64.wrap (t515)), aq, aq, H', ⟨Nat.le_refl _⟩, by repeat (first | exact Drawn0.refl _ | apply Drawn0.step)⟩
    case round =>
      clear H'
      try clear p2
      try clear c3
      try clear c5
      try clear c6
      try clear c6b0
      obtain ⟨x13_1, x14_1, rfl, rfl, HA, HK1, ⟨m1, rfl⟩⟩ := hrel
      cases gk with
      | zero => exact absurd HA.out (by simp [nat_guess.l0])
      | succ k1 =>
        have H := HA.out
        clear HA
        simp only [nat_guess.l0] at H
        by_cases c8 : x14_1 < 4294967296
        · rw [if_pos c8] at H
          have c8b0 : decide (x14_1 < 4294967296) = true := decide_eq_true c8
          clear c8
          by_cases c9 : (IntKind.u64.wrap (x13_1 * (IntKind.u64.wrap (a4)))) > (Go.bits .or .u64 (IntKind.u64.wrap (x14_1 * 4294967296)) (IntKind.u64.wrap (a2)))
          · rw [if_pos c9] at H
            have c9b0 : decide ((Go.bits .or .u64 (IntKind.u64.wrap (x14_1 * 4294967296)) (IntKind.u64.wrap (a2))) < (IntKind.u64.wrap (x13_1 * (IntKind.u64.wrap (a4))))) = true := decide_eq_true c9
            clear c9
            have H' := Aside0.mk H
            clear H
            go_wp2
            go_roundg k1
            case measure => have := HK1.out; omega
            case rel => exact ⟨(IntKind.u64.wrap (x13_1 - 1)), (IntKind.u64.wrap (x14_1 + (IntKind.u64.wrap (a3)))), aq, aq, H', ⟨by have := HK1.out; omega⟩, by repeat (first | exact Drawn0.refl _ | apply Drawn0.step)⟩
          · rw [if_neg c9] at H
            have c9b0 : decide ((Go.bits .or .u64 (IntKind.u64.wrap (x14_1 * 4294967296)) (IntKind.u64.wrap (a2))) < (IntKind.u64.wrap (x13_1 * (IntKind.u64.wrap (a4))))) = false := decide_eq_false c9
            clear c9
            obtain rfl := Option.some.inj H
            go_wp2
            go_ret
            exact ⟨by first | rfl | (simp; done) | (simp [*]; done), by repeat (first | exact Drawn0.refl _ | apply Drawn0.step)⟩
        · rw [if_neg c8] at H
          have c8b0 : decide (x14_1 < 4294967296) = false := decide_eq_false c8
          clear c8
          obtain rfl := Option.some.inj H
          go_wp2
          go_ret
          exact ⟨by first | rfl | (simp; done) | (simp [*]; done), by repeat (first | exact Drawn0.refl _ | apply Drawn0.step)⟩

end Go.Proofs.YtkihjfpfocnneaaDoor.PNat
