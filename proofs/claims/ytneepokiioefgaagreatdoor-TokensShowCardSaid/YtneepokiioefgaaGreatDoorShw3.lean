/- Any token is shown right, and known for a jump or none: the law TokensShow answers true at every token and every name that its row admits. This is part 3 of 6: what the session's printing program wrote for the functions reached, and the session's own lemmas. -/
import Derived.Test.YtneepokiioefgaaGreatDoorShw2
set_option maxHeartbeats 32000000
set_option linter.unusedVariables false
set_option linter.unusedSimpArgs false
set_option maxHeartbeats 32000000
set_option linter.unusedVariables false
set_option linter.unusedSimpArgs false
namespace Go.Proofs.YtneepokiioefgaaGreatDoor.PNat
open Go.RowKit YtneepokiioefgaaGreatDoorW.PrintWords YtneepokiioefgaaGreatDoorW.PrintLast YtneepokiioefgaaGreatDoorW.PrintMore
attribute [local go_sem] max2_int min2_int max_two min_two max_three min_three max_four min_four
mutual
def nat_Mul.j0 : Nat → List Int → List Int → Bool → Option (List Int × Int)
 | 0, _, _, _ => none
 | k + 1, x0, x1, x17 => if x17 = true then (some (([] : List Int), 2)) else ((nat_trim.f k x0).bind fun t192 => ((nat_trim.f k x1).bind fun t195 => (if 0 ≤ (wrap64 ((t192.length : Int) + (t195.length : Int))) then (if (wrap64 ((t192.length : Int) + (t195.length : Int)) : Int).toNat ≤ 70368744177664 then (nat_Mul.l0 k t195 (List.replicate (wrap64 ((t192.length : Int) + (t195.length : Int)) : Int).toNat 0) t192 (t192.length : Int) 0) else (none)) else (none))))
def nat_Mul.l0 : Nat → List Int → List Int → List Int → Int → Int → Option (List Int × Int)
 | 0, _, _, _, _, _ => none
 | k + 1, x1, x6, x28, x29, x30 => if x30 < x29 then (if 0 ≤ x30 then (if x30 < (x28.length : Int) then (nat_Mul.l1 k x1 x6 x30 (rd x28 x30) 0 x28 x29 x30 x1 (x1.length : Int) 0) else (none)) else (none)) else ((nat_fits.f k x6).bind fun bt201 => (some (bt201.1, bt201.2)))
def nat_Mul.l1 : Nat → List Int → List Int → Int → Int → Int → List Int → Int → Int → List Int → Int → Int → Option (List Int × Int)
 | 0, _, _, _, _, _, _, _, _, _, _, _ => none
 | k + 1, x1, x6, x7, x8, x9, x28, x29, x30, x35, x36, x37 => if x37 < x36 then (if 0 ≤ x37 then (if x37 < (x35.length : Int) then (if 0 ≤ (wrap64 (x7 + x37)) then (if (wrap64 (x7 + x37)) < (x6.length : Int) then (nat_Mul.l1 k x1 (x6.set ((wrap64 (x7 + x37)) : Int).toNat ((IntKind.u64.wrap (x9 + (IntKind.u64.wrap ((IntKind.u64.wrap ((IntKind.u64.wrap (x8)) * (IntKind.u64.wrap (rd x35 x37)))) + (IntKind.u64.wrap (rd x6 (wrap64 (x7 + x37)))))))) % 4294967296)) x7 x8 ((IntKind.u64.wrap (x9 + (IntKind.u64.wrap ((IntKind.u64.wrap ((IntKind.u64.wrap (x8)) * (IntKind.u64.wrap (rd x35 x37)))) + (IntKind.u64.wrap (rd x6 (wrap64 (x7 + x37)))))))) / 4294967296) x28 x29 x30 x35 x36 (wrap64 (x37 + 1))) else (none)) else (none)) else (none)) else (none)) else (if 0 ≤ (wrap64 (x7 + (x1.length : Int))) then (if (wrap64 (x7 + (x1.length : Int))) < (x6.length : Int) then (nat_Mul.l0 k x1 (x6.set ((wrap64 (x7 + (x1.length : Int))) : Int).toNat ((x9) % 4294967296)) x28 x29 (wrap64 (x30 + 1))) else (none)) else (none))
end
def nat_Mul.f (k : Nat) (l0 : List Int) (l1 : List Int) : Option (List Int × Int) := (nat_large.f k l0).bind fun t190 => (if t190 = true then (nat_Mul.j0 k l0 l1 true) else ((nat_large.f k l1).bind fun t191 => (nat_Mul.j0 k l0 l1 t191)))
set_option maxRecDepth 100000 in
theorem nat_Mul.calls (k : Nat) (P0_ : Nat → Prop) (A0 : Option Addr) (c0 : Nat) (l0 : List Int) (P1_ : Nat → Prop) (A1 : Option Addr) (c1 : Nat) (l1 : List Int) (r1 : List Int) (r2 : Int) (w : World) (hs0 : Kd.V (Kd.int .u32) 119 w w.heap.size (fun k_ => P0_ k_) (.slice A0 l0.length c0) l0) (hs1 : Kd.V (Kd.int .u32) 119 w w.heap.size (fun k_ => P1_ k_) (.slice A1 l1.length c1) l1) (h : nat_Mul.f k l0 l1 = some (r1, r2)) :
  Calls Tryz.prog 115 #[.slice A0 l0.length c0, .slice A1 l1.length c1] w fun e w' => ∃ v0_ : Value, e = .returned (.tuple #[v0_, .int .i64 r2]) ∧ Kd.V (Kd.int .u32) 119 w' w.heap.size (fun k_ => ((P0_ k_ ∨ P1_ k_) ∨ w.heap.size ≤ k_)) v0_ r1 ∧ Below w.heap.size w w' := by
 have HO0 := md_ (show Kd.V (Kd.int .u32) 119 w w.heap.size (fun k_ => ((P0_ k_ ∨ P1_ k_) ∨ w.heap.size ≤ k_)) (.slice A0 l0.length c0) l0 from Kd.V_mono hs0 (fun k_ hk => .inl (.inl hk)))
 have HO1 := md_ (show Kd.V (Kd.int .u32) 119 w w.heap.size (fun k_ => ((P0_ k_ ∨ P1_ k_) ∨ w.heap.size ≤ k_)) (.slice A1 l1.length c1) l1 from Kd.V_mono hs1 (fun k_ hk => .inl (.inr hk)))
 have HB := md_ (Below.refl w.heap.size w)
 have H : ((nat_large.f k l0).bind fun t190 => (if t190 = true then (nat_Mul.j0 k l0 l1 true) else ((nat_large.f k l1).bind fun t191 => (nat_Mul.j0 k l0 l1 t191)))) = some (r1, r2) := h
 clear h
 have HC3 := md_ H
 clear H
 go_enter Tryz.func115, Tryz.ntmps115
 go_upto_region 1 with (fail)
 go_cut [17] (fun v17 wc => ∃ (kq : Nat) (x17_2 : Bool), v17 = .bool x17_2 ∧ Aside0 (nat_Mul.j0 kq l0 l1 x17_2 = some (r1, r2)) ∧ Aside0 (kq ≤ k) ∧ Aside0 (Kd.V (Kd.int .u32) 119 wc w.heap.size (fun k_ => ((P0_ k_ ∨ P1_ k_) ∨ w.heap.size ≤ k_)) (.slice A0 l0.length c0) l0) ∧ Aside0 (Kd.V (Kd.int .u32) 119 wc w.heap.size (fun k_ => ((P0_ k_ ∨ P1_ k_) ∨ w.heap.size ≤ k_)) (.slice A1 l1.length c1) l1) ∧ Aside0 (Below w.heap.size w wc))
 case first =>
  have H := HC3.out
  clear HC3
  replace H := Option.bind_eq_some_iff.mp H
  obtain ⟨t190, A40, H⟩ := H
  have A4 := md_ A40
  clear A40
  by_cases c5 : t190 = true
  ·subst c5
   rw [if_pos rfl] at H
   have H' := md_ H
   clear H
   go_wp2_with (first | ((with_reducible refine gate_callee (f := 117) rfl ?_); refine goesL_ (some 13) rfl rfl Tryz.func117 (by kernel_rfl) rfl #[.slice A0 l0.length c0] rfl gq ?_; (with_reducible refine (nat_large.calls k _ _ l0 true _ ?side1 ?side2 A4.out).mono ?_); (case side1 => repeat (first | exact (Kd.V_reads' HO0.out).2.2 | (with_reducible refine Kd.C_alloc ?_ _) | (with_reducible refine Kd.C_drewN ?_ _) | (with_reducible refine Kd.C_drew ?_))); (case side2 => exact (Kd.V_reads' HO0.out).2.1); rintro e w6 ⟨rfl, hb⟩; refine ⟨_, rfl, ?_⟩; replace HO0 := vb_ HO0 hb; replace HO1 := vb_ HO1 hb; replace HB := bb_ HB hb; (try clear hb); (try clear hi)))
   go_meet
   case rel => exact ⟨_, (true), aq, H', ⟨by first | omega | exact Nat.le_refl _⟩, ⟨vq HO0.out⟩, ⟨vq HO1.out⟩, ⟨bq HB.out⟩⟩
  ·replace c5 := Bool.eq_false_iff.mpr c5
   subst c5
   rw [if_neg (show ¬ (false = true) by decide)] at H
   replace H := Option.bind_eq_some_iff.mp H
   obtain ⟨t191, A70, H⟩ := H
   have A7 := md_ A70
   clear A70
   have H' := md_ H
   clear H
   go_wp2_with (first | ((with_reducible refine gate_callee (f := 117) rfl ?_); refine goesL_ (some 13) rfl rfl Tryz.func117 (by kernel_rfl) rfl #[.slice A0 l0.length c0] rfl gq ?_; (with_reducible refine (nat_large.calls k _ _ l0 false _ ?side1 ?side2 A4.out).mono ?_); (case side1 => repeat (first | exact (Kd.V_reads' HO0.out).2.2 | (with_reducible refine Kd.C_alloc ?_ _) | (with_reducible refine Kd.C_drewN ?_ _) | (with_reducible refine Kd.C_drew ?_))); (case side2 => exact (Kd.V_reads' HO0.out).2.1); rintro e w8 ⟨rfl, hb⟩; refine ⟨_, rfl, ?_⟩; replace HO0 := vb_ HO0 hb; replace HO1 := vb_ HO1 hb; replace HB := bb_ HB hb; (try clear hb); (try clear hi)) | (go_at_call 117; (with_reducible refine (nat_large.calls k _ _ l1 t191 _ ?side1 ?side2 A7.out).mono ?_); (case side1 => repeat (first | exact (Kd.V_reads' HO1.out).2.2 | (with_reducible refine Kd.C_alloc ?_ _) | (with_reducible refine Kd.C_drewN ?_ _) | (with_reducible refine Kd.C_drew ?_))); (case side2 => exact (Kd.V_reads' HO1.out).2.1); rintro e w9 ⟨rfl, hb⟩; replace HO0 := vb_ HO0 hb; replace HO1 := vb_ HO1 hb; replace HB := bb_ HB hb; (try clear hb); (try clear hi)))
   go_meet
   case rel => exact ⟨_, (t191), aq, H', ⟨by first | omega | exact Nat.le_refl _⟩, ⟨vq HO0.out⟩, ⟨vq HO1.out⟩, ⟨bq HB.out⟩⟩
 case rest =>
  clear HC3
  (try clear c1); (try clear p2); (try clear c4); (try clear c5)
  obtain ⟨kq, x17_2, rfl, HA, HJ2, HO_0, HO_1, HB⟩ := hcut
  cases kq with
  | zero => exact absurd HA.out (by simp [nat_Mul.j0])
  | succ kj2 =>
   have H := HA.out
   clear HA
   simp only [nat_Mul.j0] at H
   by_cases c10 : x17_2 = true
   ·subst c10
    rw [if_pos rfl] at H
    simp only [Option.some.injEq, Prod.mk.injEq] at H
    obtain ⟨rfl, rfl⟩ := H
    go_wp2
    go_ret2
    exact ⟨_, eq_, Kd.V_mono (Kd.R_V (by first | exact Kd.R_nil _ _ _ _ _ | exact Kd.R_nil _ 119 _ 0 (fun _ => False) | exact Kd.R_nil _ 119 _ 0 _ | exact Kd.R_nil _ _ _ _ _ | exact Kd.N_nil _ _ _ _ _ | exact Kd.V_nil _ _ _ _ _ | exact Kd.Q_nil _ _ _ _ _ | exact Kd.S_nil _ _ _ _ _)) (fun k_ hk => by first | exact hk.elim | exact ⟨(.inr (hk.1)), hk.2⟩ | exact (.inr (hk))), bq HB.out⟩
   ·replace c10 := Bool.eq_false_iff.mpr c10
    subst c10
    rw [if_neg (show ¬ (false = true) by decide)] at H
    replace H := Option.bind_eq_some_iff.mp H
    obtain ⟨t192, A110, H⟩ := H
    have A11 := md_ A110
    clear A110
    replace H := Option.bind_eq_some_iff.mp H
    obtain ⟨t195, A120, H⟩ := H
    have A12 := md_ A120
    clear A120
    obtain ⟨ji13, hji13⟩ : ∃ j_ : Int, (wrap64 ((t192.length : Int) + (t195.length : Int))) = j_ := ⟨_, rfl⟩
    first | rw [hji13] at H | simp only [hji13] at H
    (try rw [hji13] at A11)
    (try rw [hji13] at A12)
    have hji13w : (IntKind.i64.wrap ((t192.length : Int) + (t195.length : Int))) = ji13 := (i64_w _).trans hji13
    obtain ⟨c14, H⟩ := oi_ H
    have c14b0 := eq_true c14
    have c14b1 : decide (0 ≤ (ji13)) = true := decide_eq_true c14
    clear c14
    obtain ⟨c15, H⟩ := oi_ H
    have c15b0 := eq_true c15
    have c15b1 : decide ((ji13 : Int).toNat ≤ 70368744177664) = true := decide_eq_true c15
    clear c15
    obtain ⟨y198, hy198⟩ : ∃ y_ : List Int, y_ = (List.replicate (ji13 : Int).toNat 0) := ⟨_, rfl⟩
    replace H : (nat_Mul.l0 kj2 t195 y198 t192 (t192.length : Int) 0) = some (r1, r2) := by first | (rw [hy198]; with_reducible exact H) | (have H2_ := (Option.bind_some _ _).symm.trans H; rw [hy198]; with_reducible exact H2_) | (have H2_ := (Option.bind_some _ _).symm.trans H; with_reducible exact H2_) | with_reducible exact H | (rw [hy198]; exact H) | exact H
    have Ny198 := md_ hy198
    clear hy198
    have H' := md_ H
    clear H
    go_wp2_with (first | ((with_reducible refine gate_callee (f := 86) rfl ?_); refine goesL_ (some 19) rfl rfl Tryz.func86 (by kernel_rfl) rfl #[.slice A0 l0.length c0] rfl gq ?_; (with_reducible refine (nat_trim.calls kj2 (fun k_ => ((P0_ k_ ∨ P1_ k_) ∨ w.heap.size ≤ k_)) _ _ l0 t192 _ ?side1 A11.out).mono ?_); (case side1 => exact HO_0.out); rintro e w16 ⟨v193, rfl, ho0, hb⟩; refine ⟨_, rfl, ?_⟩; have n0_ := md_ (Kd.V_below (vq HO_0.out) hb); have n1_ := md_ (Kd.V_below (vq HO_1.out) hb); have n2_ := md_ (Kd.V_lower (Kd.V_mono (ok' := fun k_ => ((P0_ k_ ∨ P1_ k_) ∨ w.heap.size ≤ k_)) ho0 (fun k_ hk_ => Or.elim hk_ (fun hs_ => hs_) (fun hn_ => (.inr (Nat.le_trans (below_size (bq HB.out)) hn_))))) (below_size (bq HB.out))); have n3_ := md_ (below_step (bq HB.out) hb); clear HO_0; clear HO_1; clear HB; have HO_0 := n0_; have HO_1 := n1_; have HO194 := n2_; have HB := n3_; clear n0_ n1_ n2_ n3_; (try clear hb); (try clear hk); (try clear ho0)) | ((with_reducible refine gate_callee (f := 86) rfl ?_); refine goesL_ (some 21) rfl rfl Tryz.func86 (by kernel_rfl) rfl #[.slice A1 l1.length c1] rfl gq ?_; (with_reducible refine (nat_trim.calls kj2 (fun k_ => ((P0_ k_ ∨ P1_ k_) ∨ w.heap.size ≤ k_)) _ _ l1 t195 _ ?side1 A12.out).mono ?_); (case side1 => exact HO_1.out); rintro e w17 ⟨v196, rfl, ho0, hb⟩; refine ⟨_, rfl, ?_⟩; have n0_ := md_ (Kd.V_below (vq HO_0.out) hb); have n1_ := md_ (Kd.V_below (vq HO_1.out) hb); have n2_ := md_ (Kd.V_below (vq HO194.out) hb); have n3_ := md_ (Kd.V_lower (Kd.V_mono (ok' := fun k_ => ((P0_ k_ ∨ P1_ k_) ∨ w.heap.size ≤ k_)) ho0 (fun k_ hk_ => Or.elim hk_ (fun hs_ => hs_) (fun hn_ => (.inr (Nat.le_trans (below_size (bq HB.out)) hn_))))) (below_size (bq HB.out))); have n4_ := md_ (below_step (bq HB.out) hb); clear HO_0; clear HO_1; clear HO194; clear HB; have HO_0 := n0_; have HO_1 := n1_; have HO194 := n2_; have HO197 := n3_; have HB := n4_; clear n0_ n1_ n2_ n3_ n4_; (try clear hb); (try clear hk); (try clear ho0); obtain ⟨Ao18, co18, eo18⟩ := Kd.V_slice HO194.out; subst eo18; obtain ⟨Ao19, co19, eo19⟩ := Kd.V_slice HO197.out; subst eo19) | ((with_reducible refine gate_dst (N := 27) rfl ?_); refine Kd.R_make (Kd.int .u32) _ 119 rfl (N := 27) rfl 96 _ _ rfl ji13 rfl rfl Tryz.underlying96 (.int .u32 0) 4 info119 rfl (by decide) (by omega) 0 (ok := fun _ => True) (okp := fun _ => True) rfl (fun _ hk => hk) trivial oq (Nat.le_trans (Nat.mul_le_mul_right _ (oq : ji13.toNat ≤ 70368744177664)) (by omega)) (Below.refl _ _) (Nat.le_refl _) ?_; intro v199 w20 ho21 hb hg_ hnew_; clear hg_ hnew_; (first | rw [← Ny198.out] at ho21 | (simp only [Int.reduceToNat] at ho21; rw [← Ny198.out] at ho21)); replace HO_0 := md_ (Kd.V_elder' (vq HO_0.out) (Kd.R_base ho21) hb); replace HO_1 := md_ (Kd.V_elder' (vq HO_1.out) (Kd.R_base ho21) hb); replace HO194 := md_ (Kd.V_elder' (vq HO194.out) (Kd.R_base ho21) hb); replace HO197 := md_ (Kd.V_elder' (vq HO197.out) (Kd.R_base ho21) hb); have HO200 := md_ (Kd.R_lower (Kd.R_newM (M := fun k_ => (w.heap.size ≤ k_)) ho21 (below_size (bq HB.out)) (fun k_ h_ => h_)) (below_size (bq HB.out))); replace HB := bb_ HB hb; clear hb ho21))
    go_loopg [30] kj2 (fun kq v30 w' => ∃ (x6_2 : List Int) (x30_2 : Int), v30 = .int .i64 x30_2 ∧ Aside0 (nat_Mul.l0 kq t195 x6_2 t192 (t192.length : Int) x30_2 = some (r1, r2)) ∧ Aside0 (kq ≤ kj2) ∧ Aside0 (Kd.V (Kd.int .u32) 119 w' w.heap.size (fun k_ => ((P0_ k_ ∨ P1_ k_) ∨ w.heap.size ≤ k_) ∧ some k_ ≠ (v199 : Value).ownBlock) (.slice Ao19 t195.length co19) t195) ∧ Aside0 (Kd.R (Kd.int .u32) 119 w' w.heap.size (fun k_ => (w.heap.size ≤ k_)) v199 x6_2) ∧ Aside0 (Kd.V (Kd.int .u32) 119 w' w.heap.size (fun k_ => ((P0_ k_ ∨ P1_ k_) ∨ w.heap.size ≤ k_) ∧ some k_ ≠ (v199 : Value).ownBlock) (.slice Ao18 t192.length co18) t192) ∧ Aside0 (Below w.heap.size w w'))
    case atStart => exact ⟨(y198), (0), aq, H', ⟨Nat.le_refl _⟩, ⟨vq HO197.out⟩, ⟨by (with_reducible repeat (first | apply Kd.R_alloc | apply Kd.R_drewN | apply Kd.R_drew)); exact Kd.R_mono HO200.out (fun _ hk => hk.1)⟩, ⟨vq HO194.out⟩, ⟨bq HB.out⟩⟩
    case round =>
     clear H'
     (try clear c1); (try clear p2); (try clear c3); (try clear c4); (try clear c5); (try clear p6); (try clear c10); (try clear c14); (try clear c14b0); (try clear c14b1); (try clear c15); (try clear c15b0); (try clear c15b1); (try clear c16); (try clear p2)
     obtain ⟨x6_2, x30_2, rfl, HA, HK2, HO_1, HO_6, HO_28, HB⟩ := hrel
     cases gk with
     | zero => exact absurd HA.out (by simp [nat_Mul.l0])
     | succ k2 =>
      have H := HA.out
      clear HA
      simp only [nat_Mul.l0] at H
      by_cases c22 : x30_2 < (t192.length : Int)
      ·rw [if_pos c22] at H
       have c22b0 := decide_eq_true c22
       clear c22
       obtain ⟨c23b0, H⟩ := od_ H
       obtain ⟨c24b0, H⟩ := od_ H
       have H' := md_ H
       clear H
       have p205 : 0 ≤ (x30_2 : Int) := oq
       have q205 : x30_2 < (t192.length : Int) := oq
       obtain ⟨ad205, e205, hx205_0⟩ := Kd.at_int (Kd.V_reads' HO_28.out).2.2 x30_2 p205 q205
       cases e205
       replace p205 := eq_true p205
       replace q205 := eq_true q205
       go_wp2
       go_loopg [9, 37] k2 (fun kq v9 v37 w' => ∃ (x6_3 : List Int) (x9_3 : Int) (x37_3 : Int), v9 = .int .u64 x9_3 ∧ v37 = .int .i64 x37_3 ∧ Aside0 (nat_Mul.l1 kq t195 x6_3 x30_2 (rd t192 x30_2) x9_3 t192 (t192.length : Int) x30_2 t195 (t195.length : Int) x37_3 = some (r1, r2)) ∧ Aside0 (kq ≤ k2) ∧ Aside0 (Kd.V (Kd.int .u32) 119 w' w.heap.size (fun k_ => ((P0_ k_ ∨ P1_ k_) ∨ w.heap.size ≤ k_) ∧ some k_ ≠ (v199 : Value).ownBlock) (.slice Ao19 t195.length co19) t195) ∧ Aside0 (Kd.R (Kd.int .u32) 119 w' w.heap.size (fun k_ => (w.heap.size ≤ k_)) v199 x6_3) ∧ Aside0 (Kd.V (Kd.int .u32) 119 w' w.heap.size (fun k_ => ((P0_ k_ ∨ P1_ k_) ∨ w.heap.size ≤ k_) ∧ some k_ ≠ (v199 : Value).ownBlock) (.slice (some ad205) t192.length co18) t192) ∧ Aside0 (Kd.V (Kd.int .u32) 119 w' w.heap.size (fun k_ => ((P0_ k_ ∨ P1_ k_) ∨ w.heap.size ≤ k_) ∧ some k_ ≠ (v199 : Value).ownBlock) (.slice Ao19 t195.length co19) t195) ∧ Aside0 (Below w.heap.size w w'))
       case atStart => exact ⟨(x6_2), (0), (0), aq, aq, H', ⟨Nat.le_refl _⟩, ⟨vq HO_1.out⟩, ⟨rq HO_6.out⟩, ⟨vq HO_28.out⟩, ⟨vq HO_1.out⟩, ⟨bq HB.out⟩⟩
       case round =>
        clear H'
        (try clear c1); (try clear c2); (try clear p2); (try clear q2); (try clear hx2); (try clear c3); (try clear c4); (try clear c5); (try clear p6); (try clear c10); (try clear c14); (try clear c14b0); (try clear c14b1); (try clear c15); (try clear c15b0); (try clear c15b1); (try clear c16); (try clear p20); (try clear q20); (try clear hx20); (try clear c22); (try clear c22b0); (try clear c23); (try clear c23b0); (try clear c24); (try clear c24b0); (try clear hx205_0); (try clear p2); (try clear p205); (try clear p6); (try clear q205)
        obtain ⟨x6_3, x9_3, x37_3, rfl, rfl, HA, HK3, HO_1, HO_6, HO_28, HO_35, HB⟩ := hrel
        cases gk with
        | zero => exact absurd HA.out (by simp [nat_Mul.l1])
        | succ k3 =>
         have H := HA.out
         clear HA
         simp only [nat_Mul.l1] at H
         by_cases c25 : x37_3 < (t195.length : Int)
         ·rw [if_pos c25] at H
          have c25b0 := decide_eq_true c25
          clear c25
          obtain ⟨c26b0, H⟩ := od_ H
          obtain ⟨c27b0, H⟩ := od_ H
          obtain ⟨ji28, hji28⟩ : ∃ j_ : Int, (wrap64 (x30_2 + x37_3)) = j_ := ⟨_, rfl⟩
          first | rw [hji28] at H | simp only [hji28] at H
          have hji28w : (IntKind.i64.wrap (x30_2 + x37_3)) = ji28 := (i64_w _).trans hji28
          obtain ⟨c29b0, H⟩ := od_ H
          obtain ⟨c30b0, H⟩ := od_ H
          obtain ⟨y208, hy208⟩ : ∃ y_ : List Int, y_ = (x6_3.set ((ji28) : Int).toNat ((IntKind.u64.wrap (x9_3 + (IntKind.u64.wrap ((IntKind.u64.wrap ((IntKind.u64.wrap ((rd t192 x30_2))) * (IntKind.u64.wrap (rd t195 x37_3)))) + (IntKind.u64.wrap (rd x6_3 (ji28))))))) % 4294967296)) := ⟨_, rfl⟩
          replace H : (nat_Mul.l1 k3 t195 y208 x30_2 (rd t192 x30_2) ((IntKind.u64.wrap (x9_3 + (IntKind.u64.wrap ((IntKind.u64.wrap ((IntKind.u64.wrap ((rd t192 x30_2))) * (IntKind.u64.wrap (rd t195 x37_3)))) + (IntKind.u64.wrap (rd x6_3 (ji28))))))) / 4294967296) t192 (t192.length : Int) x30_2 t195 (t195.length : Int) (wrap64 (x37_3 + 1))) = some (r1, r2) := by first | (rw [hy208]; with_reducible exact H) | (have H2_ := (Option.bind_some _ _).symm.trans H; rw [hy208]; with_reducible exact H2_) | (have H2_ := (Option.bind_some _ _).symm.trans H; with_reducible exact H2_) | with_reducible exact H | (rw [hy208]; exact H) | exact H
          have Ny208 := md_ hy208
          clear hy208
          have H' := md_ H
          clear H
          have p206 : 0 ≤ (x37_3 : Int) := oq
          have q206 : x37_3 < (t195.length : Int) := oq
          obtain ⟨ad206, e206, hx206_0⟩ := Kd.at_int (Kd.V_reads' HO_35.out).2.2 x37_3 p206 q206
          cases e206
          replace p206 := eq_true p206
          replace q206 := eq_true q206
          obtain ⟨Ao32, co32, eo32⟩ := Kd.R_slice HO_6.out
          subst eo32
          have p207 : 0 ≤ ((ji28) : Int) := oq
          have q207 : (ji28) < (x6_3.length : Int) := oq
          obtain ⟨ad207, e207, hx207_0⟩ := Kd.at_int (Kd.R_reads' HO_6.out).2.2 (ji28) p207 q207
          cases e207
          replace p207 := eq_true p207
          replace q207 := eq_true q207
          have p31 : 0 ≤ ((ji28) : Int) := oq
          have q31 : ((ji28) : Int) < ((x6_3.length : Int) : Int) := oq
          obtain ⟨go31, co31, eo31, gb31, gl31, cl31, HG31⟩ := Kd.R_form HO_6.out (by omega)
          (first | cases eo31 | (injection eo31 with ea_ en_ ec_; (first | subst ea_ | (injection ea_ with ea_; subst ea_)); subst ec_; clear en_))
          have GB31 := md_ gb31
          have GG31 := md_ HG31
          clear gb31 gl31 HG31
          (first | simp only [add_plain] at hx207_0 | skip)
          obtain ⟨hx31_0, hf31_0⟩ := Kd.R_celln 0 HO_6.out ((ji28) : Int) p31 q31
          (try simp only [Int.toNat_natCast] at hx31_0)
          (try simp only [Int.toNat_natCast] at hf31_0)
          replace p31 := eq_true p31
          replace q31 := eq_true q31
          have HP33 := Kd.R_putg HO_6.out ((ji28) : Int) ((IntKind.u64.wrap (x9_3 + (IntKind.u64.wrap ((IntKind.u64.wrap ((IntKind.u64.wrap ((rd t192 x30_2))) * (IntKind.u64.wrap (rd t195 x37_3)))) + (IntKind.u64.wrap (rd x6_3 (ji28))))))) % 4294967296)
          go_wp2_with (first | ((with_reducible refine gate_store (t := 119) (p := 63) rfl ?_); refine store_event (t := 119) (p := 63) (v := ?vo_w34) (w1 := (wr.setCell ⟨go31, ((ji28) : Int).toNat, none⟩ (.int .u32 ((IntKind.u64.wrap (x9_3 + (IntKind.u64.wrap ((IntKind.u64.wrap ((IntKind.u64.wrap ((rd t192 x30_2))) * (IntKind.u64.wrap (rd t195 x37_3)))) + (IntKind.u64.wrap (rd x6_3 (ji28))))))) % 4294967296)))) ?hg ?ho ?hn ?hr ?_; (case ho => rfl); (case hg => rfl); (case hn => rfl); (case hr => first | (go_simp; done) | (go_simp; rfl) | (obtain ⟨hx_, hf_⟩ := Kd.R_celln 0 HO_6.out ((ji28) : Int) oq oq; (try simp only [Int.toNat_natCast] at hx_); (try simp only [Int.toNat_natCast] at hf_); first | (go_simp; done) | (go_simp; rfl))); intro w34 hw; have hg : wr.grownBy w34 (some go31) := (by rw [hw]; exact HP33.2); have hp_ : Kd.R (Kd.int .u32) 119 w34 w.heap.size (fun k_ => (w.heap.size ≤ k_)) (.slice (some ⟨go31, 0, none⟩) x6_3.length co32) y208 := (by rw [hw, Ny208.out]; exact HP33.1); clear HP33; replace HO_1 := md_ (Kd.V_afterv (v := (.slice (some ⟨go31, 0, none⟩) x6_3.length co32)) (v1 := (.slice (some ⟨go31, 0, none⟩) x6_3.length co32)) (ok := (fun k_ => ((P0_ k_ ∨ P1_ k_) ∨ w.heap.size ≤ k_))) (vq HO_1.out) hg (.inl rfl)); replace HO_6 := md_ (hp_); replace HO_28 := md_ (Kd.V_afterv (v := (.slice (some ⟨go31, 0, none⟩) x6_3.length co32)) (v1 := (.slice (some ⟨go31, 0, none⟩) x6_3.length co32)) (ok := (fun k_ => ((P0_ k_ ∨ P1_ k_) ∨ w.heap.size ≤ k_))) (vq HO_28.out) hg (.inl rfl)); replace HO_35 := md_ (Kd.V_afterv (v := (.slice (some ⟨go31, 0, none⟩) x6_3.length co32)) (v1 := (.slice (some ⟨go31, 0, none⟩) x6_3.length co32)) (ok := (fun k_ => ((P0_ k_ ∨ P1_ k_) ∨ w.heap.size ≤ k_))) (vq HO_35.out) hg (.inl rfl)); replace HB := md_ ((by rw [hw]; exact below_set (HB.out) GB31.out : Below w.heap.size w w34)); clear hg hw hp_))
          go_roundg k3
          case measure => have := HJ2.out; have := HK2.out; have := HK3.out; omega
          case rel => exact ⟨(y208), ((IntKind.u64.wrap (x9_3 + (IntKind.u64.wrap ((IntKind.u64.wrap ((IntKind.u64.wrap ((rd t192 x30_2))) * (IntKind.u64.wrap (rd t195 x37_3)))) + (IntKind.u64.wrap (rd x6_3 (ji28))))))) / 4294967296), (wrap64 (x37_3 + 1)), (by first | rfl | (simp; done) | (simp only [← hji28] <;> (first | rfl | simp)) | (simp [*]; done)), aq, H', ⟨by have := HJ2.out; have := HK2.out; have := HK3.out; omega⟩, ⟨vq HO_1.out⟩, ⟨rq HO_6.out⟩, ⟨vq HO_28.out⟩, ⟨vq HO_35.out⟩, ⟨bq HB.out⟩⟩
         ·rw [if_neg c25] at H
          have c25b0 := decide_eq_false c25
          clear c25
          obtain ⟨ji35, hji35⟩ : ∃ j_ : Int, (wrap64 (x30_2 + (t195.length : Int))) = j_ := ⟨_, rfl⟩
          first | rw [hji35] at H | simp only [hji35] at H
          have hji35w : (IntKind.i64.wrap (x30_2 + (t195.length : Int))) = ji35 := (i64_w _).trans hji35
          obtain ⟨c36b0, H⟩ := od_ H
          obtain ⟨c37b0, H⟩ := od_ H
          obtain ⟨y209, hy209⟩ : ∃ y_ : List Int, y_ = (x6_3.set ((ji35) : Int).toNat ((x9_3) % 4294967296)) := ⟨_, rfl⟩
          replace H : (nat_Mul.l0 k3 t195 y209 t192 (t192.length : Int) (wrap64 (x30_2 + 1))) = some (r1, r2) := by first | (rw [hy209]; with_reducible exact H) | (have H2_ := (Option.bind_some _ _).symm.trans H; rw [hy209]; with_reducible exact H2_) | (have H2_ := (Option.bind_some _ _).symm.trans H; with_reducible exact H2_) | with_reducible exact H | (rw [hy209]; exact H) | exact H
          have Ny209 := md_ hy209
          clear hy209
          have H' := md_ H
          clear H
          have p38 : 0 ≤ ((ji35) : Int) := oq
          have q38 : ((ji35) : Int) < ((x6_3.length : Int) : Int) := oq
          obtain ⟨go38, co38, eo38, gb38, gl38, cl38, HG38⟩ := Kd.R_form HO_6.out (by omega)
          (first | cases eo38 | (injection eo38 with ea_ en_ ec_; (first | subst ea_ | (injection ea_ with ea_; subst ea_)); subst ec_; clear en_))
          have GB38 := md_ gb38
          have GG38 := md_ HG38
          clear gb38 gl38 HG38
          obtain ⟨hx38_0, hf38_0⟩ := Kd.R_celln 0 HO_6.out ((ji35) : Int) p38 q38
          (try simp only [Int.toNat_natCast] at hx38_0)
          (try simp only [Int.toNat_natCast] at hf38_0)
          replace p38 := eq_true p38
          replace q38 := eq_true q38
          have HP39 := Kd.R_putg HO_6.out ((ji35) : Int) ((x9_3) % 4294967296)
          go_wp2_with (first | ((with_reducible refine gate_store (t := 119) (p := 74) rfl ?_); refine store_event (t := 119) (p := 74) (v := ?vo_w40) (w1 := (wr.setCell ⟨go38, ((ji35) : Int).toNat, none⟩ (.int .u32 ((x9_3) % 4294967296)))) ?hg ?ho ?hn ?hr ?_; (case ho => rfl); (case hg => rfl); (case hn => rfl); (case hr => first | (go_simp; done) | (go_simp; rfl) | (obtain ⟨hx_, hf_⟩ := Kd.R_celln 0 HO_6.out ((ji35) : Int) oq oq; (try simp only [Int.toNat_natCast] at hx_); (try simp only [Int.toNat_natCast] at hf_); first | (go_simp; done) | (go_simp; rfl))); intro w40 hw; have hg : wr.grownBy w40 (some go38) := (by rw [hw]; exact HP39.2); have hp_ : Kd.R (Kd.int .u32) 119 w40 w.heap.size (fun k_ => (w.heap.size ≤ k_)) (.slice (some ⟨go38, 0, none⟩) x6_3.length co38) y209 := (by rw [hw, Ny209.out]; exact HP39.1); clear HP39; replace HO_1 := md_ (Kd.V_afterv (v := (.slice (some ⟨go38, 0, none⟩) x6_3.length co38)) (v1 := (.slice (some ⟨go38, 0, none⟩) x6_3.length co38)) (ok := (fun k_ => ((P0_ k_ ∨ P1_ k_) ∨ w.heap.size ≤ k_))) (vq HO_1.out) hg (.inl rfl)); replace HO_6 := md_ (hp_); replace HO_28 := md_ (Kd.V_afterv (v := (.slice (some ⟨go38, 0, none⟩) x6_3.length co38)) (v1 := (.slice (some ⟨go38, 0, none⟩) x6_3.length co38)) (ok := (fun k_ => ((P0_ k_ ∨ P1_ k_) ∨ w.heap.size ≤ k_))) (vq HO_28.out) hg (.inl rfl)); replace HO_35 := md_ (Kd.V_afterv (v := (.slice (some ⟨go38, 0, none⟩) x6_3.length co38)) (v1 := (.slice (some ⟨go38, 0, none⟩) x6_3.length co38)) (ok := (fun k_ => ((P0_ k_ ∨ P1_ k_) ∨ w.heap.size ≤ k_))) (vq HO_35.out) hg (.inl rfl)); replace HB := md_ ((by rw [hw]; exact below_set (HB.out) GB38.out : Below w.heap.size w w40)); clear hg hw hp_))
          go_roundg k3
          case measure => have := HJ2.out; have := HK2.out; have := HK3.out; omega
          case rel => exact ⟨(y209), (wrap64 (x30_2 + 1)), aq, H', ⟨by have := HJ2.out; have := HK2.out; have := HK3.out; omega⟩, ⟨vq HO_1.out⟩, ⟨rq HO_6.out⟩, ⟨vq HO_28.out⟩, ⟨bq HB.out⟩⟩
      ·rw [if_neg c22] at H
       have c22b0 := decide_eq_false c22
       clear c22
       replace H := Option.bind_eq_some_iff.mp H
       obtain ⟨⟨t201, t204⟩, A410, H⟩ := H
       dsimp only at H
       have A41 := md_ A410
       clear A410
       simp only [Option.some.injEq, Prod.mk.injEq] at H
       obtain ⟨rfl, rfl⟩ := H
       obtain ⟨Ao42, co42, eo42⟩ := Kd.R_slice HO_6.out
       subst eo42
       go_wp2_with (first | ((with_reducible refine gate_callee (f := 134) rfl ?_); refine goesL_ (some 77) rfl rfl Tryz.func134 (by kernel_rfl) rfl #[.slice Ao42 x6_2.length co42] rfl gq ?_; (with_reducible refine (nat_fits.calls k2 (fun k_ => some k_ = (.slice Ao42 x6_2.length co42 : Value).ownBlock) _ _ x6_2 t201 t204 _ ?side1 A41.out).mono ?_); (case side1 => exact Kd.R_V (Kd.R_tight rfl (HO_6.out))); rintro e w43 ⟨v202, rfl, ho0, hb⟩; refine ⟨_, rfl, ?_⟩; have n0_ := md_ (Kd.V_below (vq HO_1.out) hb); have n1_ := md_ (Kd.R_below (rq HO_6.out) hb); have n2_ := md_ (Kd.V_below (vq HO_28.out) hb); have n3_ := md_ (Kd.V_lower (Kd.V_mono (ok' := fun k_ => ((P0_ k_ ∨ P1_ k_) ∨ w.heap.size ≤ k_)) ho0 (fun k_ hk_ => Or.elim hk_ (fun hs_ => (.inr (((HO_6.out).1 k_ hs_.symm)))) (fun hn_ => (.inr (Nat.le_trans (below_size (bq HB.out)) hn_))))) (below_size (bq HB.out))); have n4_ := md_ (below_step (bq HB.out) hb); clear HO_1; clear HO_6; clear HO_28; clear HB; have HO_1 := n0_; have HO_6 := n1_; have HO_28 := n2_; have HO203 := n3_; have HB := n4_; clear n0_ n1_ n2_ n3_ n4_; (try clear hb); (try clear ho0)))
       go_ret2
       exact ⟨_, by first | rfl | (simp [errW_none, errW_some] <;> rfl) | (simp only [← hji13]; first | rfl | (simp [errW_none, errW_some] <;> rfl)) | (simp [*, errW_none, errW_some] <;> rfl), vq HO203.out, bq HB.out⟩
def nat_moved.l0 : Nat → Int → List Int → List Int → Int → Int → Option (List Int)
 | 0, _, _, _, _, _ => none
 | k + 1, x1, x5, x13, x14, x15 => if x15 < x14 then (if 0 ≤ x15 then (if x15 < (x13.length : Int) then (if 0 ≤ x1 then (if x15 < (x5.length : Int) then (if 0 ≤ (wrap64 (x15 + 1)) then (if (wrap64 (x15 + 1)) < (x5.length : Int) then (nat_moved.l0 k x1 ((x5.set (x15 : Int).toNat (Go.bits .or .u32 (rd x5 x15) ((shl .u64 (IntKind.u64.wrap (rd x13 x15)) x1) % 4294967296))).set ((wrap64 (x15 + 1)) : Int).toNat (((shl .u64 (IntKind.u64.wrap (rd x13 x15)) x1) / 4294967296) % 4294967296)) x13 x14 (wrap64 (x15 + 1))) else (none)) else (none)) else (none)) else (none)) else (none)) else (none)) else (some x5)
def nat_moved.f (k : Nat) (l0 : List Int) (a1 : Int) : Option (List Int) := if 0 ≤ (wrap64 ((l0.length : Int) + 1)) then (if (wrap64 ((l0.length : Int) + 1) : Int).toNat ≤ 70368744177664 then (nat_moved.l0 k a1 (List.replicate (wrap64 ((l0.length : Int) + 1) : Int).toNat 0) l0 (l0.length : Int) 0) else (none)) else (none)
set_option maxRecDepth 100000 in
theorem nat_moved.calls (k : Nat) (A0 : Option Addr) (c0 : Nat) (l0 : List Int) (a1 : Int) (r : List Int) (w : World) (hr0 : Kd.C (Kd.int .u32) w A0 l0.length l0) (hc0 : l0.length ≤ c0) (h : nat_moved.f k l0 a1 = some r) :
  Calls Tryz.prog 120 #[.slice A0 l0.length c0, .int .i64 a1] w fun e w' => ∃ v0_ : Value, e = .returned (v0_) ∧ Kd.R (Kd.int .u32) 119 w' w.heap.size (fun _ => True) v0_ r ∧ Below w.heap.size w w' := by
 have HR0 := md_ hr0
 have HC0 := md_ hc0
 clear hr0 hc0
 have HB := md_ (Below.refl w.heap.size w)
 have H : (if 0 ≤ (wrap64 ((l0.length : Int) + 1)) then (if (wrap64 ((l0.length : Int) + 1) : Int).toNat ≤ 70368744177664 then (nat_moved.l0 k a1 (List.replicate (wrap64 ((l0.length : Int) + 1) : Int).toNat 0) l0 (l0.length : Int) 0) else (none)) else (none)) = some r := h
 clear h
 obtain ⟨ji3, hji3⟩ : ∃ j_ : Int, (wrap64 ((l0.length : Int) + 1)) = j_ := ⟨_, rfl⟩
 first | rw [hji3] at H | simp only [hji3] at H
 have hji3w : (IntKind.i64.wrap ((l0.length : Int) + 1)) = ji3 := (i64_w _).trans hji3
 obtain ⟨c4, H⟩ := oi_ H
 have c4b0 := eq_true c4
 have c4b1 : decide (0 ≤ (ji3)) = true := decide_eq_true c4
 clear c4
 obtain ⟨c5, H⟩ := oi_ H
 have c5b0 := eq_true c5
 have c5b1 : decide ((ji3 : Int).toNat ≤ 70368744177664) = true := decide_eq_true c5
 clear c5
 obtain ⟨y251, hy251⟩ : ∃ y_ : List Int, y_ = (List.replicate (ji3 : Int).toNat 0) := ⟨_, rfl⟩
 replace H : (nat_moved.l0 k a1 y251 l0 (l0.length : Int) 0) = some r := by first | (rw [hy251]; with_reducible exact H) | (have H2_ := (Option.bind_some _ _).symm.trans H; rw [hy251]; with_reducible exact H2_) | (have H2_ := (Option.bind_some _ _).symm.trans H; with_reducible exact H2_) | with_reducible exact H | (rw [hy251]; exact H) | exact H
 have Ny251 := md_ hy251
 clear hy251
 have H' := md_ H
 clear H
 go_enter Tryz.func120, Tryz.ntmps120
 go_wp2_with (first | ((with_reducible refine gate_dst (N := 12) rfl ?_); refine Kd.R_make (Kd.int .u32) _ 119 rfl (N := 12) rfl 96 _ _ rfl ji3 rfl rfl Tryz.underlying96 (.int .u32 0) 4 info119 rfl (by decide) (by omega) 0 (ok := fun _ => True) (okp := fun _ => True) rfl (fun _ hk => hk) trivial oq (Nat.le_trans (Nat.mul_le_mul_right _ (oq : ji3.toNat ≤ 70368744177664)) (by omega)) (Below.refl _ _) (Nat.le_refl _) ?_; intro v252 w6 ho7 hb hg_ hnew_; clear hg_ hnew_; (first | rw [← Ny251.out] at ho7 | (simp only [Int.reduceToNat] at ho7; rw [← Ny251.out] at ho7)); have HO253 := md_ (Kd.R_lower ho7 (below_size (bq HB.out))); replace HB := bb_ HB hb; clear hb ho7))
 go_loopg [15] k (fun kq v15 w' => ∃ (x5_1 : List Int) (x15_1 : Int), v15 = .int .i64 x15_1 ∧ Aside0 (nat_moved.l0 kq a1 x5_1 l0 (l0.length : Int) x15_1 = some r) ∧ Aside0 (kq ≤ k) ∧ Aside0 (Kd.R (Kd.int .u32) 119 w' w.heap.size (fun _ => True) v252 x5_1) ∧ Aside0 (Below w.heap.size w w'))
 case atStart => exact ⟨(y251), (0), aq, H', ⟨Nat.le_refl _⟩, ⟨rq HO253.out⟩, ⟨bq HB.out⟩⟩
 case round =>
  clear H'
  (try clear p2); (try clear c4); (try clear c4b0); (try clear c4b1); (try clear c5); (try clear c5b0); (try clear c5b1); (try clear p6)
  obtain ⟨x5_1, x15_1, rfl, HA, HK1, HO_5, HB⟩ := hrel
  cases gk with
  | zero => exact absurd HA.out (by simp [nat_moved.l0])
  | succ k1 =>
   have H := HA.out
   clear HA
   simp only [nat_moved.l0] at H
   by_cases c8 : x15_1 < (l0.length : Int)
   ·rw [if_pos c8] at H
    have c8b0 := decide_eq_true c8
    clear c8
    obtain ⟨c9b0, H⟩ := od_ H
    obtain ⟨c10b0, H⟩ := od_ H
    obtain ⟨c11, H⟩ := oi_ H
    have c11b0 := eq_true c11
    have c11b1 : decide (0 ≤ a1) = true := decide_eq_true c11
    clear c11
    obtain ⟨ji12, hji12⟩ : ∃ j_ : Int, (shl .u64 (IntKind.u64.wrap (rd l0 x15_1)) a1) = j_ := ⟨_, rfl⟩
    first | rw [hji12] at H | simp only [hji12] at H
    have hji12_ : (IntKind.u64.wrap ((IntKind.u64.wrap (rd l0 x15_1)) * 2 ^ min a1.toNat 64)) = ji12 := hji12
    have hji12z : a1 ≤ 64 → (IntKind.u64.wrap ((IntKind.u64.wrap (rd l0 x15_1)) * 2 ^ a1.toNat)) = ji12 := shl_small hji12
    obtain ⟨c13b0, H⟩ := od_ H
    obtain ⟨y256, hy256⟩ : ∃ y_ : List Int, y_ = (x5_1.set (x15_1 : Int).toNat (Go.bits .or .u32 (rd x5_1 x15_1) ((ji12) % 4294967296))) := ⟨_, rfl⟩
    replace H : (if 0 ≤ (wrap64 (x15_1 + 1)) then (if (wrap64 (x15_1 + 1)) < (x5_1.length : Int) then (nat_moved.l0 k1 a1 (y256.set ((wrap64 (x15_1 + 1)) : Int).toNat (((ji12) / 4294967296) % 4294967296)) l0 (l0.length : Int) (wrap64 (x15_1 + 1))) else (none)) else (none)) = some r := by first | (rw [hy256]; with_reducible exact H) | (have H2_ := (Option.bind_some _ _).symm.trans H; rw [hy256]; with_reducible exact H2_) | (have H2_ := (Option.bind_some _ _).symm.trans H; with_reducible exact H2_) | with_reducible exact H | (rw [hy256]; exact H) | exact H
    have Ny256 := md_ hy256
    clear hy256
    obtain ⟨ji15, hji15⟩ : ∃ j_ : Int, (wrap64 (x15_1 + 1)) = j_ := ⟨_, rfl⟩
    first | rw [hji15] at H | simp only [hji15] at H
    have hji15w : (IntKind.i64.wrap (x15_1 + 1)) = ji15 := (i64_w _).trans hji15
    obtain ⟨c16b0, H⟩ := od_ H
    obtain ⟨c17b0, H⟩ := od_ H
    obtain ⟨y257, hy257⟩ : ∃ y_ : List Int, y_ = (y256.set ((ji15) : Int).toNat (((ji12) / 4294967296) % 4294967296)) := ⟨_, rfl⟩
    replace H : (nat_moved.l0 k1 a1 y257 l0 (l0.length : Int) ji15) = some r := by first | (rw [hy257]; with_reducible exact H) | (have H2_ := (Option.bind_some _ _).symm.trans H; rw [hy257]; with_reducible exact H2_) | (have H2_ := (Option.bind_some _ _).symm.trans H; with_reducible exact H2_) | with_reducible exact H | (rw [hy257]; exact H) | exact H
    have Ny257 := md_ hy257
    clear hy257
    have H' := md_ H
    clear H
    have p254 : 0 ≤ (x15_1 : Int) := oq
    have q254 : x15_1 < (l0.length : Int) := oq
    obtain ⟨ad254, e254, hx254_0⟩ := Kd.at_int HR0.out x15_1 p254 q254
    cases e254
    replace hx254_0 := (HB.out.cell (World.block_lt_of_cell? w _ hx254_0)).trans hx254_0
    replace p254 := eq_true p254
    replace q254 := eq_true q254
    obtain ⟨Ao19, co19, eo19⟩ := Kd.R_slice HO_5.out
    subst eo19
    have p255 : 0 ≤ (x15_1 : Int) := oq
    have q255 : x15_1 < (x5_1.length : Int) := oq
    obtain ⟨ad255, e255, hx255_0⟩ := Kd.at_int (Kd.R_reads' HO_5.out).2.2 x15_1 p255 q255
    cases e255
    replace p255 := eq_true p255
    replace q255 := eq_true q255
    have p14 : 0 ≤ (x15_1 : Int) := oq
    have q14 : (x15_1 : Int) < ((x5_1.length : Int) : Int) := oq
    obtain ⟨go14, co14, eo14, gb14, gl14, cl14, HG14⟩ := Kd.R_form HO_5.out (by omega)
    (first | cases eo14 | (injection eo14 with ea_ en_ ec_; (first | subst ea_ | (injection ea_ with ea_; subst ea_)); subst ec_; clear en_))
    have GB14 := md_ gb14
    have GG14 := md_ HG14
    clear gb14 gl14 HG14
    (first | simp only [add_plain] at hx255_0 | skip)
    obtain ⟨hx14_0, hf14_0⟩ := Kd.R_celln 0 HO_5.out (x15_1 : Int) p14 q14
    (try simp only [Int.toNat_natCast] at hx14_0)
    (try simp only [Int.toNat_natCast] at hf14_0)
    replace p14 := eq_true p14
    replace q14 := eq_true q14
    have HP20 := Kd.R_putg HO_5.out (x15_1 : Int) (Go.bits .or .u32 (rd x5_1 x15_1) ((ji12) % 4294967296))
    go_wp2_with (first | ((with_reducible refine gate_store (t := 119) (p := 31) rfl ?_); refine store_event (t := 119) (p := 31) (v := ?vo_w21) (w1 := (wr.setCell ⟨go14, (x15_1 : Int).toNat, none⟩ (.int .u32 (Go.bits .or .u32 (rd x5_1 x15_1) ((ji12) % 4294967296))))) ?hg ?ho ?hn ?hr ?_; (case ho => rfl); (case hg => rfl); (case hn => rfl); (case hr => first | (go_simp; done) | (go_simp; rfl) | (obtain ⟨hx_, hf_⟩ := Kd.R_celln 0 HO_5.out (x15_1 : Int) oq oq; (try simp only [Int.toNat_natCast] at hx_); (try simp only [Int.toNat_natCast] at hf_); first | (go_simp; done) | (go_simp; rfl))); intro w21 hw; have hg : wr.grownBy w21 (some go14) := (by rw [hw]; exact HP20.2); have hp_ : Kd.R (Kd.int .u32) 119 w21 w.heap.size (fun _ => True) (.slice (some ⟨go14, 0, none⟩) x5_1.length co19) y256 := (by rw [hw, Ny256.out]; exact HP20.1); clear HP20; replace HO_5 := md_ (hp_); replace HB := md_ ((by rw [hw]; exact below_set (HB.out) GB14.out : Below w.heap.size w w21)); clear hg hw hp_; have p18 : 0 ≤ ((ji15) : Int) := oq; have q18 : ((ji15) : Int) < ((x5_1.length : Int) : Int) := oq; obtain ⟨hx18_0, hf18_0⟩ := Kd.R_celln 0 HO_5.out ((ji15) : Int) p18 q18; (try simp only [Int.toNat_natCast] at hx18_0); (try simp only [Int.toNat_natCast] at hf18_0); replace p18 := eq_true p18; replace q18 := eq_true q18; obtain ⟨hy22_, hz22_⟩ := Kd.R_celln 0 HO_5.out ((ji15) : Int) oq oq; have HP22 := Kd.R_putg HO_5.out ((ji15) : Int) (((ji12) / 4294967296) % 4294967296)) | ((with_reducible refine gate_store (t := 119) (p := 38) rfl ?_); refine store_event (t := 119) (p := 38) (v := ?vo_w23) (w1 := (w21.setCell ⟨go14, ((ji15) : Int).toNat, none⟩ (.int .u32 (((ji12) / 4294967296) % 4294967296)))) ?hg ?ho ?hn ?hr ?_; (case ho => rfl); (case hg => rfl); (case hn => rfl); (case hr => first | (go_simp; done) | (go_simp; rfl) | (obtain ⟨hx_, hf_⟩ := Kd.R_celln 0 HO_5.out ((ji15) : Int) oq oq; (try simp only [Int.toNat_natCast] at hx_); (try simp only [Int.toNat_natCast] at hf_); first | (go_simp; done) | (go_simp; rfl))); intro w23 hw; have hg : w21.grownBy w23 (some go14) := (by rw [hw]; exact HP22.2); have hp_ : Kd.R (Kd.int .u32) 119 w23 w.heap.size (fun _ => True) (.slice (some ⟨go14, 0, none⟩) x5_1.length co19) y257 := (by rw [hw, Ny257.out]; exact HP22.1); clear HP22; replace HO_5 := md_ (hp_); replace HB := md_ ((by rw [hw]; exact below_set (HB.out) GB14.out : Below w.heap.size w w23)); clear hg hw hp_))
    go_roundg k1
    case measure => have := HK1.out; omega
    case rel => exact ⟨(y257), (ji15), (by first | rfl | (simp; done) | (simp only [← hji15] <;> (first | rfl | simp)) | (simp [*]; done)), H', ⟨by have := HK1.out; omega⟩, ⟨rq HO_5.out⟩, ⟨bq HB.out⟩⟩
   ·rw [if_neg c8] at H
    have c8b0 := decide_eq_false c8
    clear c8
    obtain rfl := Option.some.inj H
    go_wp2
    go_ret
    exact ⟨_, by first | rfl | (simp [errW_none, errW_some] <;> rfl) | (simp only [← hji3]; first | rfl | (simp [errW_none, errW_some] <;> rfl)) | (simp [*, errW_none, errW_some] <;> rfl), rq HO_5.out, bq HB.out⟩
mutual
def nat_Shift.j0 : Nat → List Int → Int → Bool → Option (List Int × Int)
 | 0, _, _, _ => none
 | k + 1, x0, x1, x13 => if x13 = true then (some (([] : List Int), 2)) else (if x1 ≥ 0 then (if 0 ≤ (wrap64 (Int.tdiv x1 32)) then (if (wrap64 (Int.tdiv x1 32) : Int).toNat ≤ 70368744177664 then ((some (List.replicate (wrap64 (Int.tdiv x1 32) : Int).toNat 0 : List Int)).bind fun y262 => ((nat_moved.f k x0 (Int.tmod x1 32)).bind fun t265 => (if y262.length + t265.length < 35184372088832 then ((nat_fits.f k (y262 ++ t265)).bind fun bt271 => (some (bt271.1, bt271.2))) else (none)))) else (none)) else (none)) else (if x1 ≤ (wrap64 ((-32) * (x0.length : Int))) then (some (([] : List Int), 0)) else (if 0 ≤ (wrap64 (Int.tdiv (wrap64 (-x1)) 32)) then (if (wrap64 (Int.tdiv (wrap64 (-x1)) 32)) ≤ (x0.length : Int) then ((some (x0.drop ((wrap64 (Int.tdiv (wrap64 (-x1)) 32)) : Int).toNat : List Int)).bind fun y275 => (if 0 ≤ (y275.length : Int) then (if ((y275.length : Int) : Int).toNat ≤ 70368744177664 then (nat_Shift.l0 k y275 (Int.tmod (wrap64 (-x1)) 32) (List.replicate ((y275.length : Int) : Int).toNat 0) y275 (y275.length : Int) 0) else (none)) else (none))) else (none)) else (none))))
def nat_Shift.l0 : Nat → List Int → Int → List Int → List Int → Int → Int → Option (List Int × Int)
 | 0, _, _, _, _, _, _ => none
 | k + 1, x0, x6, x7, x51, x52, x53 => if x53 < x52 then (if 0 ≤ x53 then (if x53 < (x51.length : Int) then (if (wrap64 (x53 + 1)) < (x0.length : Int) then (if 0 ≤ (wrap64 (x53 + 1)) then (if 0 ≤ x6 then (if x53 < (x7.length : Int) then (nat_Shift.l0 k x0 x6 (x7.set (x53 : Int).toNat ((shr .u64 (Go.bits .or .u64 (IntKind.u64.wrap (rd x51 x53)) (IntKind.u64.wrap ((IntKind.u64.wrap (rd x0 (wrap64 (x53 + 1)))) * 4294967296))) x6) % 4294967296)) x51 x52 (wrap64 (x53 + 1))) else (none)) else (none)) else (none)) else (if 0 ≤ x6 then (if x53 < (x7.length : Int) then (nat_Shift.l0 k x0 x6 (x7.set (x53 : Int).toNat ((shr .u64 (IntKind.u64.wrap (rd x51 x53)) x6) % 4294967296)) x51 x52 (wrap64 (x53 + 1))) else (none)) else (none))) else (none)) else (none)) else ((nat_trim.f k x7).bind fun t287 => (some (t287, 0)))
end
def nat_Shift.f (k : Nat) (l0 : List Int) (a1 : Int) : Option (List Int × Int) := (nat_trim.f k l0).bind fun t258 => ((nat_large.f k t258).bind fun t261 => (if t261 = true then (nat_Shift.j0 k t258 a1 true) else (nat_Shift.j0 k t258 a1 (decide (a1 > 64000)))))
def nat_Shift.T5 : Bool × List (List Nat × List Nat) := (true, [([], []), ([0], [0]), ([1, 1], [1]), ([], []), ([], []), ([4], [4]), ([3, 5], [3, 5]), ([2, 6, 6], [2, 6]), ([7, 7], [7]), ([8], [8]), ([8], [8]), ([9, 8, 0, 1, 2, 3, 4, 5, 6, 7, 8, 9, 10], [9]), ([10, 11, 0, 1, 2, 3, 4, 5, 6, 7, 8, 9, 10, 11], [10])])
def nat_Shift.B5 : List Nat := [0, 1, 3, 0, 0, 16, 56, 127, 255, 511, 511, 2047, 4095]
theorem nat_Shift.tab5 : rtab .any (opsOf Tryz.f114 5) = nat_Shift.T5 := by kernel_rfl
theorem nat_Shift.bits5 : waitsOk nat_Shift.T5.2 nat_Shift.B5 = true := by kernel_rfl
set_option maxRecDepth 100000 in
theorem nat_Shift.calls (k : Nat) (P0_ : Nat → Prop) (A0 : Option Addr) (c0 : Nat) (l0 : List Int) (a1 : Int) (r1 : List Int) (r2 : Int) (w : World) (hs0 : Kd.V (Kd.int .u32) 119 w w.heap.size (fun k_ => P0_ k_) (.slice A0 l0.length c0) l0) (h : nat_Shift.f k l0 a1 = some (r1, r2)) :
  Calls Tryz.prog 114 #[.slice A0 l0.length c0, .int .i64 a1] w fun e w' => ∃ v0_ : Value, e = .returned (.tuple #[v0_, .int .i64 r2]) ∧ Kd.V (Kd.int .u32) 119 w' w.heap.size (fun k_ => (P0_ k_ ∨ w.heap.size ≤ k_)) v0_ r1 ∧ Below w.heap.size w w' := by
 have HO0 := md_ (show Kd.V (Kd.int .u32) 119 w w.heap.size (fun k_ => (P0_ k_ ∨ w.heap.size ≤ k_)) (.slice A0 l0.length c0) l0 from Kd.V_mono hs0 (fun k_ hk => .inl hk))
 have HB := md_ (Below.refl w.heap.size w)
 have H : ((nat_trim.f k l0).bind fun t258 => ((nat_large.f k t258).bind fun t261 => (if t261 = true then (nat_Shift.j0 k t258 a1 true) else (nat_Shift.j0 k t258 a1 (decide (a1 > 64000)))))) = some (r1, r2) := h
 clear h
 replace H := Option.bind_eq_some_iff.mp H
 obtain ⟨t258, A30, H⟩ := H
 have A3 := md_ A30
 clear A30
 have HC4 := md_ H
 clear H
 go_enter Tryz.func114, Tryz.ntmps114
 go_upto_region 2 with (first | ((with_reducible refine gate_callee (f := 86) rfl ?_); refine goesL_ (some 12) rfl rfl Tryz.func86 (by kernel_rfl) rfl #[.slice A0 l0.length c0] rfl gq ?_; (with_reducible refine (nat_trim.calls k (fun k_ => (P0_ k_ ∨ w.heap.size ≤ k_)) _ _ l0 t258 _ ?side1 A3.out).mono ?_); (case side1 => exact HO0.out); rintro e w5 ⟨v259, rfl, ho0, hb⟩; refine ⟨_, rfl, ?_⟩; have n0_ := md_ (Kd.V_below (vq HO0.out) hb); have n1_ := md_ (Kd.V_lower (Kd.V_mono (ok' := fun k_ => (P0_ k_ ∨ w.heap.size ≤ k_)) ho0 (fun k_ hk_ => Or.elim hk_ (fun hs_ => hs_) (fun hn_ => (.inr (Nat.le_trans (below_size (bq HB.out)) hn_))))) (below_size (bq HB.out))); have n2_ := md_ (below_step (bq HB.out) hb); clear HO0; clear HB; have HO0 := n0_; have HO260 := n1_; have HB := n2_; clear n0_ n1_ n2_; (try clear hb); (try clear ho0)))
 (try simp only [Act.put, List.setIfInBounds_toArray, List.set_cons_zero, List.set_cons_succ])
 go_cut [13] (fun v13 wc => ∃ (kq : Nat) (x13_3 : Bool), v13 = .bool x13_3 ∧ Aside0 (nat_Shift.j0 kq t258 a1 x13_3 = some (r1, r2)) ∧ Aside0 (kq ≤ k) ∧ Aside0 (Kd.V (Kd.int .u32) 119 wc w.heap.size (fun k_ => (P0_ k_ ∨ w.heap.size ≤ k_)) v259 t258) ∧ Aside0 (Below w.heap.size w wc))
 case first =>
  have H := HC4.out
  clear HC4
  replace H := Option.bind_eq_some_iff.mp H
  obtain ⟨t261, A60, H⟩ := H
  have A6 := md_ A60
  clear A60
  by_cases c7 : t261 = true
  ·subst c7
   rw [if_pos rfl] at H
   have H' := md_ H
   clear H
   obtain ⟨Ao8, co8, eo8⟩ := Kd.V_slice HO260.out
   subst eo8
   go_wp2_with (first | ((with_reducible refine gate_callee (f := 117) rfl ?_); refine goesL_ (some 15) rfl rfl Tryz.func117 (by kernel_rfl) rfl #[.slice Ao8 t258.length co8] rfl gq ?_; (with_reducible refine (nat_large.calls k _ _ t258 true _ ?side1 ?side2 A6.out).mono ?_); (case side1 => repeat (first | exact (Kd.V_reads' HO260.out).2.2 | (with_reducible refine Kd.C_alloc ?_ _) | (with_reducible refine Kd.C_drewN ?_ _) | (with_reducible refine Kd.C_drew ?_))); (case side2 => exact (Kd.V_reads' HO260.out).2.1); rintro e w9 ⟨rfl, hb⟩; refine ⟨_, rfl, ?_⟩; replace HO0 := vb_ HO0 hb; replace HO260 := vb_ HO260 hb; replace HB := bb_ HB hb; (try clear hb); (try clear hi)))
   go_meet
   case rel => exact ⟨_, (true), aq, H', ⟨by first | omega | exact Nat.le_refl _⟩, ⟨vq HO260.out⟩, ⟨bq HB.out⟩⟩
  ·replace c7 := Bool.eq_false_iff.mpr c7
   subst c7
   rw [if_neg (show ¬ (false = true) by decide)] at H
   have H' := md_ H
   clear H
   obtain ⟨Ao10, co10, eo10⟩ := Kd.V_slice HO260.out
   subst eo10
   go_wp2_with (first | ((with_reducible refine gate_callee (f := 117) rfl ?_); refine goesL_ (some 15) rfl rfl Tryz.func117 (by kernel_rfl) rfl #[.slice Ao10 t258.length co10] rfl gq ?_; (with_reducible refine (nat_large.calls k _ _ t258 false _ ?side1 ?side2 A6.out).mono ?_); (case side1 => repeat (first | exact (Kd.V_reads' HO260.out).2.2 | (with_reducible refine Kd.C_alloc ?_ _) | (with_reducible refine Kd.C_drewN ?_ _) | (with_reducible refine Kd.C_drew ?_))); (case side2 => exact (Kd.V_reads' HO260.out).2.1); rintro e w11 ⟨rfl, hb⟩; refine ⟨_, rfl, ?_⟩; replace HO0 := vb_ HO0 hb; replace HO260 := vb_ HO260 hb; replace HB := bb_ HB hb; (try clear hb); (try clear hi)))
   go_meet
   case rel => exact ⟨_, (decide (a1 > 64000)), aq, H', ⟨by first | omega | exact Nat.le_refl _⟩, ⟨vq HO260.out⟩, ⟨bq HB.out⟩⟩
 case rest =>
  clear HC4
  (try clear c1); (try clear p2); (try clear c3); (try clear c4); (try clear c7)
  obtain ⟨kq, x13_3, rfl, HA, HJ3, HO_0, HB⟩ := hcut
  cases kq with
  | zero => exact absurd HA.out (by simp [nat_Shift.j0])
  | succ kj3 =>
   have H := HA.out
   clear HA
   simp only [nat_Shift.j0] at H
   by_cases c12 : x13_3 = true
   ·subst c12
    rw [if_pos rfl] at H
    simp only [Option.some.injEq, Prod.mk.injEq] at H
    obtain ⟨rfl, rfl⟩ := H
    go_wp2
    go_ret2
    exact ⟨_, eq_, Kd.V_mono (Kd.R_V (by first | exact Kd.R_nil _ _ _ _ _ | exact Kd.R_nil _ 119 _ 0 (fun _ => False) | exact Kd.R_nil _ 119 _ 0 _ | exact Kd.R_nil _ _ _ _ _ | exact Kd.N_nil _ _ _ _ _ | exact Kd.V_nil _ _ _ _ _ | exact Kd.Q_nil _ _ _ _ _ | exact Kd.S_nil _ _ _ _ _)) (fun k_ hk => by first | exact hk.elim | exact ⟨(.inr (hk.1)), hk.2⟩ | exact (.inr (hk))), bq HB.out⟩
   ·replace c12 := Bool.eq_false_iff.mpr c12
    subst c12
    rw [if_neg (show ¬ (false = true) by decide)] at H
    by_cases c13 : a1 ≥ 0
    ·rw [if_pos c13] at H
     have c13b0 : decide (0 ≤ a1) = true := decide_eq_true c13
     clear c13
     obtain ⟨ji14, hji14⟩ : ∃ j_ : Int, (wrap64 (Int.tdiv a1 32)) = j_ := ⟨_, rfl⟩
     first | rw [hji14] at H | simp only [hji14] at H
     have hji14w : (IntKind.i64.wrap (Int.tdiv a1 32)) = ji14 := (i64_w _).trans hji14
     obtain ⟨c15, H⟩ := oi_ H
     have c15b0 := eq_true c15
     have c15b1 : decide (0 ≤ (ji14)) = true := decide_eq_true c15
     clear c15
     obtain ⟨c16, H⟩ := oi_ H
     have c16b0 := eq_true c16
     have c16b1 : decide ((ji14 : Int).toNat ≤ 70368744177664) = true := decide_eq_true c16
     clear c16
     obtain ⟨y262, hy262⟩ : ∃ y_ : List Int, y_ = (List.replicate (ji14 : Int).toNat 0) := ⟨_, rfl⟩
     replace H : ((nat_moved.f kj3 t258 (Int.tmod a1 32)).bind fun t265 => (if y262.length + t265.length < 35184372088832 then ((nat_fits.f kj3 (y262 ++ t265)).bind fun bt271 => (some (bt271.1, bt271.2))) else (none))) = some (r1, r2) := by first | (rw [hy262]; with_reducible exact H) | (have H2_ := (Option.bind_some _ _).symm.trans H; rw [hy262]; with_reducible exact H2_) | (have H2_ := (Option.bind_some _ _).symm.trans H; with_reducible exact H2_) | with_reducible exact H | (rw [hy262]; exact H) | exact H
     have Ny262 := md_ hy262
     clear hy262
     replace H := Option.bind_eq_some_iff.mp H
     obtain ⟨t265, A170, H⟩ := H
     have A17 := md_ A170
     clear A170
     obtain ⟨c18, H⟩ := oi_ H
     have LMc18 := md_ c18
     clear c18
     obtain ⟨y268, hy268⟩ : ∃ y_ : List Int, y_ = (y262 ++ t265) := ⟨_, rfl⟩
     replace H : ((nat_fits.f kj3 y268).bind fun bt271 => (some (bt271.1, bt271.2))) = some (r1, r2) := by first | (rw [hy268]; with_reducible exact H) | (have H2_ := (Option.bind_some _ _).symm.trans H; rw [hy268]; with_reducible exact H2_) | (have H2_ := (Option.bind_some _ _).symm.trans H; with_reducible exact H2_) | with_reducible exact H | (rw [hy268]; exact H) | exact H
     have Ny268 := md_ hy268
     clear hy268
     replace H := Option.bind_eq_some_iff.mp H
     obtain ⟨⟨t271, t274⟩, A190, H⟩ := H
     dsimp only at H
     have A19 := md_ A190
     clear A190
     simp only [Option.some.injEq, Prod.mk.injEq] at H
     obtain ⟨rfl, rfl⟩ := H
     obtain ⟨Ao20, co20, eo20⟩ := Kd.V_slice HO_0.out
     subst eo20
     try go_wp2
     replace HO_0 := md_ (Kd.V_drew HO_0.out)
     replace HB := md_ (below_drew1 HB.out)
     refine start_ (n := 13) (S := fun w' => True) (ds := []) #[false, false, false, false, false, false, false, false, false, false, false, false, false] (by kernel_rfl) rfl rfl trivial (fun hHeld => ?_); refine with_tabW nat_Shift.tab5 nat_Shift.bits5 (fun HT_ HW_ => ?_)
     generalize wc.drew = w21 at HO_0 HB hHeld ⊢
     refine pq_ 0 (some 23) HT_ ?_
     refine pq_ 1 (some 24) HT_ ?_
     refine pq_ 3 (some 26) HT_ ?_
     refine pq_ 4 (some 27) HT_ ?_
     refine pq_ 5 (some 28) HT_ ?_
     refine join_ (σ := Value × Value) 6 #[true, true, true, true, true, true, true, false, false, false, false, false, false] (fun s_ => [(25, s_.1), (29, s_.2)]) (fun s_ w' => (Kd.R (Kd.int .u32) 119 w' w.heap.size (fun k_ => (w.heap.size ≤ k_) ∧ some k_ ≠ (s_.2 : Value).ownBlock) s_.1 y262) ∧ (Kd.R (Kd.int .u32) 119 w' w.heap.size (fun k_ => (w.heap.size ≤ k_) ∧ some k_ ≠ (s_.1 : Value).ownBlock) s_.2 t265) ∧ (Kd.V (Kd.int .u32) 119 w' w.heap.size (fun k_ => (P0_ k_ ∨ w.heap.size ≤ k_) ∧ some k_ ≠ (s_.1 : Value).ownBlock ∧ some k_ ≠ (s_.2 : Value).ownBlock) (.slice Ao20 t258.length co20) t258) ∧ (Below w.heap.size w w')) ?_ ?_
     rotate_left
     ·intro hCont
      refine two_ (i := 2) (j := 6) (Ni := some 25) (Nj := some 29) #[true, true, true, true, true, true, false, false, false, false, false, false, false] #[true, true, false, true, true, true, true, false, false, false, false, false, false] rfl rfl rfl rfl (two_of HT_.out (by kernel_rfl)) (by decide) (by decide) (fun K hK => ?_) (fun K hK => ?_)
      ·skip
       refine Kd.R_make_step (Kd.int .u32) _ 119 (by rfl) (N := 25) rfl 96 _ _ rfl ji14 rfl rfl Tryz.underlying96 (.int .u32 0) 4 info119 rfl (by decide) (by omega) 0 (ok := fun _ => True) (okp := fun _ => True) rfl (fun _ hk => hk) trivial oq (Nat.le_trans (Nat.mul_le_mul_right _ (oq : ji14.toNat ≤ 70368744177664)) (by omega)) (Below.refl _ _) (Nat.le_refl _) ?_
       intro v263 w22 ho23 hb hg_ hnew_
       clear hg_ hnew_
       (first | rw [← Ny262.out] at ho23 | (simp only [Int.reduceToNat] at ho23; rw [← Ny262.out] at ho23))
       replace HO_0 := md_ (Kd.V_elder' (vq HO_0.out) (Kd.R_base ho23) hb)
       have HO264 := md_ (Kd.R_lower (Kd.R_newM (M := fun k_ => (w.heap.size ≤ k_)) ho23 (below_size (bq HB.out)) (fun k_ h_ => h_)) (below_size (bq HB.out)))
       replace HB := bb_ HB hb
       clear hb ho23
       refine hK.out _ _ trivial (fun hHeld => ?_)
       clear hK K
       refine norm_ (a' := ?_) ?_ ?_
       rotate_left
       ·show Act.put _ (some 25) _ = _
        simp only [Act.put, List.setIfInBounds_toArray, List.set_cons_zero, List.set_cons_succ, i64_w, i32_w]
        rfl
       refine one_ (i := 6) (N := some 29) #[true, true, true, true, true, true, true, false, false, false, false, false, false] rfl rfl (one_of HT_.out (by kernel_rfl)) (by decide) (fun K hK => ?_)
       refine goes_ Tryz.func120 (by kernel_rfl) rfl #[.slice Ao20 t258.length co20, .int .i64 (Int.tmod a1 32)] (by rfl) rfl rfl gq ?_
       with_reducible refine (nat_moved.calls kj3 _ _ t258 (Int.tmod a1 32) t265 _ ?side1 ?side2 A17.out).mono ?_
       (case side1 => repeat (first | exact (Kd.V_reads' HO_0.out).2.2 | (with_reducible refine Kd.C_alloc ?_ _) | (with_reducible refine Kd.C_drewN ?_ _) | (with_reducible refine Kd.C_drew ?_)))
       (case side2 => exact (Kd.V_reads' HO_0.out).2.1)
       rintro e w24 ⟨v266, rfl, ho0, hb⟩
       refine ⟨_, rfl, ?_⟩
       have n0_ := md_ (Kd.V_elder' (vq HO_0.out) (Kd.R_base ho0) hb)
       have n1_ := md_ (Kd.R_elder' (rq HO264.out) (Kd.R_base ho0) hb)
       have n2_ := md_ (Kd.R_lower (Kd.R_new' (Kd.R_newM (M := fun k_ => (w.heap.size ≤ k_)) ho0 (below_size (bq HB.out)) (fun k_ h_ => h_)) (Kd.R_lt (rq HO264.out))) (below_size (bq HB.out)))
       have n3_ := md_ (below_step (bq HB.out) hb)
       clear HO_0
       clear HO264
       clear HB
       have HO_0 := n0_
       have HO264 := n1_
       have HO267 := n2_
       have HB := n3_
       clear n0_ n1_ n2_ n3_
       (try clear hb)
       (try clear hb2)
       (try clear hk)
       (try clear hi)
       (try clear ho0)
       refine hK.out _ _ trivial (fun hHeld => ?_)
       clear hK K
       refine norm_ (a' := ?_) ?_ ?_
       rotate_left
       ·show Act.put _ (some 29) _ = _
        simp only [Act.put, List.setIfInBounds_toArray, List.set_cons_zero, List.set_cons_succ, i64_w, i32_w]
        rfl
       exact norm_ (by simp only [putAll, Act.put, List.setIfInBounds_toArray, List.set_cons_zero, List.set_cons_succ]) (hCont (v263, v266) _ ⟨(by (with_reducible repeat (first | apply Kd.R_alloc | apply Kd.R_drewN | apply Kd.R_drew)); exact Kd.R_mono HO264.out (fun _ hk => ⟨hk.1.1, hk.2⟩)), (by (with_reducible repeat (first | apply Kd.R_alloc | apply Kd.R_drewN | apply Kd.R_drew)); exact Kd.R_mono HO267.out (fun _ hk => ⟨hk.1.1, hk.2⟩)), (by (with_reducible repeat (first | apply Kd.V_alloc | apply Kd.V_drewN | apply Kd.V_drew)); exact Kd.V_mono HO_0.out (fun _ hk => ⟨hk.1.1, ⟨hk.1.2, hk.2⟩⟩)), (bq HB.out)⟩)
      ·skip
       refine goes_ Tryz.func120 (by kernel_rfl) rfl #[.slice Ao20 t258.length co20, .int .i64 (Int.tmod a1 32)] (by rfl) rfl rfl gq ?_
       with_reducible refine (nat_moved.calls kj3 _ _ t258 (Int.tmod a1 32) t265 _ ?side1 ?side2 A17.out).mono ?_
       (case side1 => repeat (first | exact (Kd.V_reads' HO_0.out).2.2 | (with_reducible refine Kd.C_alloc ?_ _) | (with_reducible refine Kd.C_drewN ?_ _) | (with_reducible refine Kd.C_drew ?_)))
       (case side2 => exact (Kd.V_reads' HO_0.out).2.1)
       rintro e w22 ⟨v266, rfl, ho0, hb⟩
       refine ⟨_, rfl, ?_⟩
       replace HO_0 := md_ (Kd.V_elder' (vq HO_0.out) (Kd.R_base ho0) hb)
       have HO267 := md_ (Kd.R_lower (Kd.R_newM (M := fun k_ => (w.heap.size ≤ k_)) ho0 (below_size (bq HB.out)) (fun k_ h_ => h_)) (below_size (bq HB.out)))
       replace HB := bb_ HB hb
       (try clear hb)
       (try clear hb2)
       (try clear hk)
       (try clear hi)
       (try clear ho0)
       refine hK.out _ _ trivial (fun hHeld => ?_)
       clear hK K
       refine norm_ (a' := ?_) ?_ ?_
       rotate_left
       ·show Act.put _ (some 29) _ = _
        simp only [Act.put, List.setIfInBounds_toArray, List.set_cons_zero, List.set_cons_succ, i64_w, i32_w]
        rfl
       refine one_ (i := 2) (N := some 25) #[true, true, true, true, true, true, true, false, false, false, false, false, false] rfl rfl (one_of HT_.out (by kernel_rfl)) (by decide) (fun K hK => ?_)
       refine Kd.R_make_step (Kd.int .u32) _ 119 (by rfl) (N := 25) rfl 96 _ _ rfl ji14 rfl rfl Tryz.underlying96 (.int .u32 0) 4 info119 rfl (by decide) (by omega) 0 (ok := fun _ => True) (okp := fun _ => True) rfl (fun _ hk => hk) trivial oq (Nat.le_trans (Nat.mul_le_mul_right _ (oq : ji14.toNat ≤ 70368744177664)) (by omega)) (Below.refl _ _) (Nat.le_refl _) ?_
       intro v263 w23 ho24 hb hg_ hnew_
       clear hg_ hnew_
       (first | rw [← Ny262.out] at ho24 | (simp only [Int.reduceToNat] at ho24; rw [← Ny262.out] at ho24))
       have n0_ := md_ (Kd.V_elder' (vq HO_0.out) (Kd.R_base ho24) hb)
       have n1_ := md_ (Kd.R_elder' (rq HO267.out) (Kd.R_base ho24) hb)
       have n2_ := md_ (Kd.R_lower (Kd.R_new' (Kd.R_newM (M := fun k_ => (w.heap.size ≤ k_)) ho24 (below_size (bq HB.out)) (fun k_ h_ => h_)) (Kd.R_lt (rq HO267.out))) (below_size (bq HB.out)))
       have n3_ := md_ (below_step (bq HB.out) hb)
       clear HO_0
       clear HO267
       clear HB
       have HO_0 := n0_
       have HO267 := n1_
       have HO264 := n2_
       have HB := n3_
       clear n0_ n1_ n2_ n3_
       clear hb ho24
       refine hK.out _ _ trivial (fun hHeld => ?_)
       clear hK K
       refine norm_ (a' := ?_) ?_ ?_
       rotate_left
       ·show Act.put _ (some 25) _ = _
        simp only [Act.put, List.setIfInBounds_toArray, List.set_cons_zero, List.set_cons_succ, i64_w, i32_w]
        rfl
       exact norm_ (by simp only [putAll, Act.put, List.setIfInBounds_toArray, List.set_cons_zero, List.set_cons_succ]) (hCont (v263, v266) _ ⟨(by (with_reducible repeat (first | apply Kd.R_alloc | apply Kd.R_drewN | apply Kd.R_drew)); exact Kd.R_mono HO264.out (fun _ hk => ⟨hk.1.1, hk.2⟩)), (by (with_reducible repeat (first | apply Kd.R_alloc | apply Kd.R_drewN | apply Kd.R_drew)); exact Kd.R_mono HO267.out (fun _ hk => ⟨hk.1.1, hk.2⟩)), (by (with_reducible repeat (first | apply Kd.V_alloc | apply Kd.V_drewN | apply Kd.V_drew)); exact Kd.V_mono HO_0.out (fun _ hk => ⟨hk.1.1, ⟨hk.2, hk.1.2⟩⟩)), (bq HB.out)⟩)
     rintro ⟨v263, v266⟩ w25 ⟨h0_, h1_, h2_, h3_⟩
     have n0_ : Aside0 (Kd.R (Kd.int .u32) 119 w25 w.heap.size (fun k_ => (w.heap.size ≤ k_) ∧ some k_ ≠ (v266 : Value).ownBlock) v263 y262) := ⟨h0_⟩
     have n1_ : Aside0 (Kd.R (Kd.int .u32) 119 w25 w.heap.size (fun k_ => (w.heap.size ≤ k_) ∧ some k_ ≠ (v263 : Value).ownBlock) v266 t265) := ⟨h1_⟩
     have n2_ : Aside0 (Kd.V (Kd.int .u32) 119 w25 w.heap.size (fun k_ => (P0_ k_ ∨ w.heap.size ≤ k_) ∧ some k_ ≠ (v263 : Value).ownBlock ∧ some k_ ≠ (v266 : Value).ownBlock) (.slice Ao20 t258.length co20) t258) := ⟨h2_⟩
     have n3_ : Aside0 (Below w.heap.size w w25) := ⟨h3_⟩
     clear HO_0
     clear HB
     clear h0_ h1_ h2_ h3_
     have HO264 := n0_
     have HO267 := n1_
     have HO_0 := n2_
     have HB := n3_
     clear n0_ n1_ n2_ n3_
     have hHeld := trivial
     obtain ⟨Ao27, co27, eo27⟩ := Kd.R_slice HO267.out
     (first | subst eo27 | (injection eo27 with f1_ f2_ f3_; have f4_ := f1_.symm; have f5_ := f3_.symm; clear f1_ f2_ f3_; subst f4_; subst f5_))
     refine norm_ (a' := ?_) ?_ ?_
     rotate_left
     ·simp only [putAll, Act.put, List.setIfInBounds_toArray, List.set_cons_zero, List.set_cons_succ]
      rfl
     refine one_ (i := 7) (N := some 30) #[true, true, true, true, true, true, true, true, false, false, false, false, false] rfl rfl (one_of HT_.out (by kernel_rfl)) (by decide) (fun K hK => ?_)
     refine Kd.R_append_rows_step (Kd.int .u32) (w0 := w) w.heap.size (by rfl) (.tmp 25) (.tmp 29) 96 119 (.int .u32 0) 4 rfl Tryz.underlying96 info119 rfl (by decide) (by omega) v263 y262 t265 _ _ _ (fun k_ => (w.heap.size ≤ k_) ∧ some k_ ≠ (.slice Ao27 t265.length co27 : Value).ownBlock) (fun _ => False) rfl rfl ?aO ?aR (fun _ _ h => h) (fun _ h => h.elim) ?aF ?aB ?aS ?aL ?_
     (case aR => repeat (first | exact (Kd.R_reads' HO267.out).2.2 | (with_reducible refine Kd.C_alloc ?_ _) | (with_reducible refine Kd.C_drewN ?_ _) | (with_reducible refine Kd.C_drew ?_)))
     (case aB => exact (bq HB.out))
     (case aF => exact (fun k_ hk => ⟨(Nat.le_trans (below_size (bq HB.out)) hk), Kd.fresh' (Kd.R_lt (rq HO267.out)) k_ hk⟩))
     (case aO => exact (rq HO264.out))
     (case aS => exact (below_size (bq HB.out)))
     (case aL => have := LMc18.out; omega)
     intro v269 w26 ho hb hg hat
     rw [← Ny268.out] at ho
     replace HO_0 := md_ (Kd.V_afterv (ok := (fun k_ => (P0_ k_ ∨ w.heap.size ≤ k_) ∧ some k_ ≠ (.slice Ao27 t265.length co27 : Value).ownBlock)) (by (with_reducible repeat (first | apply Kd.V_alloc | apply Kd.V_drewN | apply Kd.V_drew)); exact Kd.V_mono HO_0.out (fun _ hk => ⟨⟨hk.1, hk.2.2⟩, hk.2.1⟩)) hg hat)
     replace HO267 := md_ (Kd.R_after (ok := (fun k_ => (w.heap.size ≤ k_))) (rq HO267.out) hg hat)
     replace HB := md_ (hb)
     have HO270 := md_ (ho)
     clear HO264
     clear ho hb hg hat
     obtain ⟨Ao28, co28, eo28⟩ := Kd.R_slice HO270.out
     (first | subst eo28 | (injection eo28 with f1_ f2_ f3_; have f4_ := f1_.symm; have f5_ := f3_.symm; clear f1_ f2_ f3_; subst f4_; subst f5_))
     refine hK.out _ _ trivial (fun hHeld => ?_)
     clear hK K
     refine norm_ (a' := ?_) ?_ ?_
     rotate_left
     ·show Act.put _ (some 30) _ = _
      simp only [Act.put, List.setIfInBounds_toArray, List.set_cons_zero, List.set_cons_succ, i64_w, i32_w]
      rfl
     refine one_ (i := 8) (N := some 31) #[true, true, true, true, true, true, true, true, true, false, false, false, false] rfl rfl (one_of HT_.out (by kernel_rfl)) (by decide) (fun K hK => ?_)
     refine goes_ Tryz.func134 (by kernel_rfl) rfl #[.slice Ao28 y268.length co28] (by rfl) rfl rfl gq ?_
     with_reducible refine (nat_fits.calls kj3 (fun k_ => some k_ = (.slice Ao28 y268.length co28 : Value).ownBlock) _ _ y268 t271 t274 _ ?side1 A19.out).mono ?_
     (case side1 => exact Kd.R_V (Kd.R_tight rfl (HO270.out)))
     rintro e w29 ⟨v272, rfl, ho0, hb⟩
     refine ⟨_, rfl, ?_⟩
     have n0_ := md_ (Kd.V_below (vq HO_0.out) hb)
     have n1_ := md_ (Kd.R_below (rq HO267.out) hb)
     have n2_ := md_ (Kd.R_below (rq HO270.out) hb)
     have n3_ := md_ (Kd.V_lower (Kd.V_mono (ok' := fun k_ => (P0_ k_ ∨ w.heap.size ≤ k_) ∧ some k_ ≠ (.slice Ao27 t265.length co27 : Value).ownBlock) ho0 (fun k_ hk_ => ⟨Or.elim hk_ (fun hs_ => (.inr (((HO270.out).1 k_ hs_.symm).1))) (fun hn_ => (.inr (Nat.le_trans (below_size (bq HB.out)) hn_))), Or.elim hk_ (fun hs_ => ((HO270.out).1 k_ hs_.symm).2) (fun hn_ => (Kd.fresh' (Kd.R_lt (rq HO267.out)) k_ hn_))⟩)) (below_size (bq HB.out)))
     have n4_ := md_ (below_step (bq HB.out) hb)
     clear HO_0
     clear HO267
     clear HO270
     clear HB
     have HO_0 := n0_
     have HO267 := n1_
     have HO270 := n2_
     have HO273 := n3_
     have HB := n4_
     clear n0_ n1_ n2_ n3_ n4_
     (try clear hb)
     (try clear hb2)
     (try clear hk)
     (try clear hi)
     (try clear ho0)
     refine hK.out _ _ trivial (fun hHeld => ?_)
     clear hK K
     refine norm_ (a' := ?_) ?_ ?_
     rotate_left
     ·show Act.put _ (some 31) _ = _
      simp only [Act.put, List.setIfInBounds_toArray, List.set_cons_zero, List.set_cons_succ, i64_w, i32_w]
      rfl
     refine pq_ 9 (some 32) HT_ ?_
     refine pq_ 10 (some 33) HT_ ?_
     refine pq_ 11 (some 4) HT_ ?_
     refine pq_ 12 (some 5) HT_ ?_
     refine done_ (done_of HT_.out (by kernel_rfl)) ?_
     try go_wp2
     go_ret2
     exact ⟨_, by first | rfl | (simp [errW_none, errW_some] <;> rfl) | (simp only [← hji14]; first | rfl | (simp [errW_none, errW_some] <;> rfl)) | (simp [*, errW_none, errW_some] <;> rfl), by (with_reducible repeat (first | apply Kd.V_alloc | apply Kd.V_drewN | apply Kd.V_drew)); exact Kd.V_mono HO273.out (fun _ hk => hk.1), bq HB.out⟩
    ·rw [if_neg c13] at H
     have c13b0 : decide (0 ≤ a1) = false := decide_eq_false c13
     clear c13
     by_cases c30 : a1 ≤ (wrap64 ((-32) * (t258.length : Int)))
     ·rw [if_pos c30] at H
      have c30b0 := decide_eq_true c30
      clear c30
      simp only [Option.some.injEq, Prod.mk.injEq] at H
      obtain ⟨rfl, rfl⟩ := H
      obtain ⟨Ao31, co31, eo31⟩ := Kd.V_slice HO_0.out
      subst eo31
      go_wp2
      go_ret2
      exact ⟨_, eq_, Kd.V_mono (Kd.R_V (by first | exact Kd.R_nil _ _ _ _ _ | exact Kd.R_nil _ 119 _ 0 (fun _ => False) | exact Kd.R_nil _ 119 _ 0 _ | exact Kd.R_nil _ _ _ _ _ | exact Kd.N_nil _ _ _ _ _ | exact Kd.V_nil _ _ _ _ _ | exact Kd.Q_nil _ _ _ _ _ | exact Kd.S_nil _ _ _ _ _)) (fun k_ hk => by first | exact hk.elim | exact ⟨(.inr (hk.1)), hk.2⟩ | exact (.inr (hk))), bq HB.out⟩
     ·rw [if_neg c30] at H
      have c30b0 := decide_eq_false c30
      clear c30
      obtain ⟨ji32, hji32⟩ : ∃ j_ : Int, (wrap64 (Int.tdiv (wrap64 (-a1)) 32)) = j_ := ⟨_, rfl⟩
      first | rw [hji32] at H | simp only [hji32] at H
      have hji32w : (IntKind.i64.wrap (Int.tdiv (wrap64 (-a1)) 32)) = ji32 := (i64_w _).trans hji32
      obtain ⟨c33, H⟩ := oi_ H
      have c33b0 := eq_true c33
      have c33b1 : decide (0 ≤ (ji32)) = true := decide_eq_true c33
      clear c33
      obtain ⟨c34, H⟩ := oi_ H
      have c34b0 := eq_true c34
      have c34b1 : decide ((ji32) ≤ (t258.length : Int)) = true := decide_eq_true c34
      clear c34
      obtain ⟨y275, hy275⟩ : ∃ y_ : List Int, y_ = (t258.drop ((ji32) : Int).toNat) := ⟨_, rfl⟩
      replace H : (if 0 ≤ (y275.length : Int) then (if ((y275.length : Int) : Int).toNat ≤ 70368744177664 then (nat_Shift.l0 kj3 y275 (Int.tmod (wrap64 (-a1)) 32) (List.replicate ((y275.length : Int) : Int).toNat 0) y275 (y275.length : Int) 0) else (none)) else (none)) = some (r1, r2) := by first | (rw [hy275]; with_reducible exact H) | (have H2_ := (Option.bind_some _ _).symm.trans H; rw [hy275]; with_reducible exact H2_) | (have H2_ := (Option.bind_some _ _).symm.trans H; with_reducible exact H2_) | with_reducible exact H | (rw [hy275]; exact H) | exact H
      have Ny275 := md_ hy275
      clear hy275
      obtain ⟨c35, H⟩ := oi_ H
      have c35b0 := eq_true c35
      have c35b1 : decide (0 ≤ (y275.length : Int)) = true := decide_eq_true c35
      clear c35
      obtain ⟨c36, H⟩ := oi_ H
      have c36b0 := eq_true c36
      have c36b1 : decide (((y275.length : Int) : Int).toNat ≤ 70368744177664) = true := decide_eq_true c36
      clear c36
      obtain ⟨y280, hy280⟩ : ∃ y_ : List Int, y_ = (List.replicate ((y275.length : Int) : Int).toNat 0) := ⟨_, rfl⟩
      replace H : (nat_Shift.l0 kj3 y275 (Int.tmod (wrap64 (-a1)) 32) y280 y275 (y275.length : Int) 0) = some (r1, r2) := by first | (rw [hy280]; with_reducible exact H) | (have H2_ := (Option.bind_some _ _).symm.trans H; rw [hy280]; with_reducible exact H2_) | (have H2_ := (Option.bind_some _ _).symm.trans H; with_reducible exact H2_) | with_reducible exact H | (rw [hy280]; exact H) | exact H
      have Ny280 := md_ hy280
      clear hy280
      have H' := md_ H
      clear H
      obtain ⟨Ao37, co37, eo37⟩ := Kd.V_slice HO_0.out
      subst eo37
      have q38 : ((ji32) : Int) ≤ ((t258.length : Int) : Int) := oq
      obtain ⟨i038, hi038, _, hsz38, _⟩ := info_parts info119
      have hroom38 : t258.length ≤ co37 := (Kd.V_reads' HO_0.out).2.1
      have hC38 : Kd.F (Kd.int .u32) _ _ Ao37 t258.length t258 := (Kd.V_at (base := w.heap.size) HO_0.out).2.2
      have q038 : (0 : Int) ≤ ((ji32) : Int) := oq
      have hcut38 := cut_from (P := Tryz.prog) 96 119 .i64 Tryz.underlying96 hi038 1 hsz38 Ao37 t258.length co37 (ji32) q038 q38
      have hr38 := Kd.F_cut (m := ((ji32) : Int).toNat) (c := co37) hC38 (by omega) hroom38
      obtain ⟨A38, hA38⟩ : ∃ A1, A1 = (if co37 = ((ji32) : Int).toNat then Ao37 else (Ao37 : Option Addr).map (·.add (((ji32) : Int).toNat * 1))) := ⟨_, rfl⟩
      obtain ⟨c38, hc38⟩ : ∃ c1, c1 = co37 - ((ji32) : Int).toNat := ⟨_, rfl⟩
      have hy38 : y275.length = t258.length - ((ji32) : Int).toNat := (by rw [Ny275.out, List.length_drop] <;> omega)
      rw [show (t258).drop ((ji32) : Int).toNat = y275 from Ny275.out.symm] at hr38
      replace hr38 : Kd.F (Kd.int .u32) _ _ A38 y275.length y275 := (by rw [hA38]; exact hr38)
      rw [← hy38, ← hA38, ← hc38] at hcut38
      have HO279 := md_ (show Kd.V (Kd.int .u32) 119 _ w.heap.size _ (.slice A38 y275.length c38) y275 from Kd.V_mk (by rw [hy38, hc38]; exact Nat.sub_le_sub_right hroom38 _) hr38)
      have HC279 := md_ (show y275.length ≤ c38 from by rw [hy38, hc38]; exact Nat.sub_le_sub_right hroom38 _)
      clear hr38 hC38 hroom38 hi038 hsz38 hc38
      have KY38 := md_ hy38
      have KA38 := md_ hA38
      clear hy38 hA38
      replace q38 := eq_true q38
      go_wp2_with (first | ((with_reducible refine gate_dst (N := 50) rfl ?_); refine Kd.R_make (Kd.int .u32) _ 119 rfl (N := 50) rfl 96 _ _ rfl (y275.length : Int) rfl rfl Tryz.underlying96 (.int .u32 0) 4 info119 rfl (by decide) (by omega) 0 (ok := fun _ => True) (okp := fun _ => True) rfl (fun _ hk => hk) trivial oq (Nat.le_trans (Nat.mul_le_mul_right _ (oq : (y275.length : Int).toNat ≤ 70368744177664)) (by omega)) (Below.refl _ _) (Nat.le_refl _) ?_; intro v281 w39 ho40 hb hg_ hnew_; clear hg_ hnew_; (first | rw [← Ny280.out] at ho40 | (simp only [Int.reduceToNat] at ho40; rw [← Ny280.out] at ho40)); replace HO_0 := md_ (Kd.V_elder' (vq HO_0.out) (Kd.R_base ho40) hb); replace HO279 := md_ (Kd.V_elder' (vq HO279.out) (Kd.R_base ho40) hb); have HO282 := md_ (Kd.R_lower (Kd.R_newM (M := fun k_ => (w.heap.size ≤ k_)) ho40 (below_size (bq HB.out)) (fun k_ h_ => h_)) (below_size (bq HB.out))); replace HB := bb_ HB hb; clear hb ho40))
      go_loopg [53] kj3 (fun kq v53 w' => ∃ (x7_2 : List Int) (x53_2 : Int), v53 = .int .i64 x53_2 ∧ Aside0 (nat_Shift.l0 kq y275 (Int.tmod (wrap64 (-a1)) 32) x7_2 y275 (y275.length : Int) x53_2 = some (r1, r2)) ∧ Aside0 (kq ≤ kj3) ∧ Aside0 (Kd.V (Kd.int .u32) 119 w' w.heap.size (fun k_ => (P0_ k_ ∨ w.heap.size ≤ k_) ∧ some k_ ≠ (v281 : Value).ownBlock) (.slice A38 y275.length c38) y275) ∧ Aside0 (Kd.R (Kd.int .u32) 119 w' w.heap.size (fun k_ => (w.heap.size ≤ k_)) v281 x7_2) ∧ Aside0 (Kd.V (Kd.int .u32) 119 w' w.heap.size (fun k_ => (P0_ k_ ∨ w.heap.size ≤ k_) ∧ some k_ ≠ (v281 : Value).ownBlock) (.slice A38 y275.length c38) y275) ∧ Aside0 (Below w.heap.size w w'))
      case atStart => exact ⟨(y280), (0), aq, H', ⟨Nat.le_refl _⟩, ⟨vq HO279.out⟩, ⟨by (with_reducible repeat (first | apply Kd.R_alloc | apply Kd.R_drewN | apply Kd.R_drew)); exact Kd.R_mono HO282.out (fun _ hk => hk.1)⟩, ⟨vq HO279.out⟩, ⟨bq HB.out⟩⟩
      case round =>
       clear H'
       (try clear c1); (try clear p2); (try clear c3); (try clear q3); (try clear c4); (try clear p6); (try clear c7); (try clear c12); (try clear c13); (try clear c13b0); (try clear c15); (try clear c15b0); (try clear c15b1); (try clear c16); (try clear c16b0); (try clear c16b1); (try clear c18); (try clear c19); (try clear c30); (try clear c30b0); (try clear c33); (try clear c33b0); (try clear c33b1); (try clear c34); (try clear c34b0); (try clear c34b1); (try clear c35); (try clear c35b0); (try clear c35b1); (try clear c36); (try clear c36b0); (try clear c36b1); (try clear c38); (try clear q38); (try clear p2); (try clear q038); (try clear q38)
       obtain ⟨x7_2, x53_2, rfl, HA, HK2, HO_0, HO_7, HO_51, HB⟩ := hrel
       cases gk with
       | zero => exact absurd HA.out (by simp [nat_Shift.l0])
       | succ k2 =>
        have H := HA.out
        clear HA
        simp only [nat_Shift.l0] at H
        by_cases c41 : x53_2 < (y275.length : Int)
        ·rw [if_pos c41] at H
         have c41b0 := decide_eq_true c41
         clear c41
         obtain ⟨c42b0, H⟩ := od_ H
         obtain ⟨c43b0, H⟩ := od_ H
         by_cases c44 : (wrap64 (x53_2 + 1)) < (y275.length : Int)
         ·rw [if_pos c44] at H
          have c44b0 := decide_eq_true c44
          clear c44
          obtain ⟨ji45, hji45⟩ : ∃ j_ : Int, (wrap64 (x53_2 + 1)) = j_ := ⟨_, rfl⟩
          first | rw [hji45] at H | simp only [hji45] at H
          (try rw [hji45] at c44b0)
          have hji45w : (IntKind.i64.wrap (x53_2 + 1)) = ji45 := (i64_w _).trans hji45
          obtain ⟨c46b0, H⟩ := od_ H
          obtain ⟨ji47, hji47⟩ : ∃ j_ : Int, (Int.tmod (wrap64 (-a1)) 32) = j_ := ⟨_, rfl⟩
          first | rw [hji47] at H | simp only [hji47] at H
          obtain ⟨c48, H⟩ := oi_ H
          have c48b0 := eq_true c48
          have c48b1 : decide (0 ≤ (ji47)) = true := decide_eq_true c48
          clear c48
          obtain ⟨ji49, hji49⟩ : ∃ j_ : Int, (shr .u64 (Go.bits .or .u64 (IntKind.u64.wrap (rd y275 x53_2)) (IntKind.u64.wrap ((IntKind.u64.wrap (rd y275 (ji45))) * 4294967296))) (ji47)) = j_ := ⟨_, rfl⟩
          first | rw [hji49] at H | simp only [hji49] at H
          have hji49_ : ((Go.bits .or .u64 (IntKind.u64.wrap (rd y275 x53_2)) (IntKind.u64.wrap ((IntKind.u64.wrap (rd y275 (ji45))) * 4294967296))) / 2 ^ min (ji47).toNat 64) = ji49 := hji49
          have hji49z : (ji47) ≤ 64 → ((Go.bits .or .u64 (IntKind.u64.wrap (rd y275 x53_2)) (IntKind.u64.wrap ((IntKind.u64.wrap (rd y275 (ji45))) * 4294967296))) / 2 ^ (ji47).toNat) = ji49 := shr_small hji49
          obtain ⟨c50b0, H⟩ := od_ H
          obtain ⟨y285, hy285⟩ : ∃ y_ : List Int, y_ = (x7_2.set (x53_2 : Int).toNat ((ji49) % 4294967296)) := ⟨_, rfl⟩
          replace H : (nat_Shift.l0 k2 y275 (ji47) y285 y275 (y275.length : Int) ji45) = some (r1, r2) := by first | (rw [hy285]; with_reducible exact H) | (have H2_ := (Option.bind_some _ _).symm.trans H; rw [hy285]; with_reducible exact H2_) | (have H2_ := (Option.bind_some _ _).symm.trans H; with_reducible exact H2_) | with_reducible exact H | (rw [hy285]; exact H) | exact H
          have Ny285 := md_ hy285
          clear hy285
          have H' := md_ H
          clear H
          have p283 : 0 ≤ (x53_2 : Int) := oq
          have q283 : x53_2 < (y275.length : Int) := oq
          obtain ⟨ad283, e283, hx283_0⟩ := Kd.at_int (Kd.V_reads' HO_51.out).2.2 x53_2 p283 q283
          cases e283
          replace p283 := eq_true p283
          replace q283 := eq_true q283
          have p284 : 0 ≤ ((ji45) : Int) := oq
          have q284 : (ji45) < (y275.length : Int) := oq
          obtain ⟨ad284, e284, hx284_0⟩ := Kd.at_int (Kd.V_reads' HO_0.out).2.2 (ji45) p284 q284
          obtain rfl : ad283 = ad284 := (by injection e284)
          replace p284 := eq_true p284
          replace q284 := eq_true q284
          have p51 : 0 ≤ (x53_2 : Int) := oq
          have q51 : (x53_2 : Int) < ((x7_2.length : Int) : Int) := oq
          obtain ⟨go51, co51, eo51, gb51, gl51, cl51, HG51⟩ := Kd.R_form HO_7.out (by omega)
          (first | cases eo51 | (injection eo51 with ea_ en_ ec_; (first | subst ea_ | (injection ea_ with ea_; subst ea_)); subst ec_; clear en_))
          have GB51 := md_ gb51
          have GG51 := md_ HG51
          clear gb51 gl51 HG51
          obtain ⟨hx51_0, hf51_0⟩ := Kd.R_celln 0 HO_7.out (x53_2 : Int) p51 q51
          (try simp only [Int.toNat_natCast] at hx51_0)
          (try simp only [Int.toNat_natCast] at hf51_0)
          replace p51 := eq_true p51
          replace q51 := eq_true q51
          have HP52 := Kd.R_putg HO_7.out (x53_2 : Int) ((ji49) % 4294967296)
          go_wp2_with (first | ((with_reducible refine gate_store (t := 119) (p := 80) rfl ?_); refine store_event (t := 119) (p := 80) (v := ?vo_w53) (w1 := (wr.setCell ⟨go51, (x53_2 : Int).toNat, none⟩ (.int .u32 ((ji49) % 4294967296)))) ?hg ?ho ?hn ?hr ?_; (case ho => rfl); (case hg => rfl); (case hn => rfl); (case hr => first | (go_simp; done) | (go_simp; rfl) | (obtain ⟨hx_, hf_⟩ := Kd.R_celln 0 HO_7.out (x53_2 : Int) oq oq; (try simp only [Int.toNat_natCast] at hx_); (try simp only [Int.toNat_natCast] at hf_); first | (go_simp; done) | (go_simp; rfl))); intro w53 hw; have hg : wr.grownBy w53 (some go51) := (by rw [hw]; exact HP52.2); have hp_ : Kd.R (Kd.int .u32) 119 w53 w.heap.size (fun k_ => (w.heap.size ≤ k_)) (.slice (some ⟨go51, 0, none⟩) x7_2.length co51) y285 := (by rw [hw, Ny285.out]; exact HP52.1); clear HP52; replace HO_0 := md_ (Kd.V_afterv (v := (.slice (some ⟨go51, 0, none⟩) x7_2.length co51)) (v1 := (.slice (some ⟨go51, 0, none⟩) x7_2.length co51)) (ok := (fun k_ => (P0_ k_ ∨ w.heap.size ≤ k_))) (vq HO_0.out) hg (.inl rfl)); replace HO_7 := md_ (hp_); replace HO_51 := md_ (Kd.V_afterv (v := (.slice (some ⟨go51, 0, none⟩) x7_2.length co51)) (v1 := (.slice (some ⟨go51, 0, none⟩) x7_2.length co51)) (ok := (fun k_ => (P0_ k_ ∨ w.heap.size ≤ k_))) (vq HO_51.out) hg (.inl rfl)); replace HB := md_ ((by rw [hw]; exact below_set (HB.out) GB51.out : Below w.heap.size w w53)); clear hg hw hp_))
          (try subst hji47)
          go_roundg k2
          case measure => have := HJ3.out; have := HK2.out; omega
          case rel => exact ⟨(y285), (ji45), (by first | rfl | (simp; done) | (simp only [← hji45] <;> (first | rfl | simp)) | (simp [*]; done)), H', ⟨by have := HJ3.out; have := HK2.out; omega⟩, ⟨vq HO_0.out⟩, ⟨rq HO_7.out⟩, ⟨vq HO_51.out⟩, ⟨bq HB.out⟩⟩
         ·rw [if_neg c44] at H
          have c44b0 := decide_eq_false c44
          clear c44
          obtain ⟨ji54, hji54⟩ : ∃ j_ : Int, (Int.tmod (wrap64 (-a1)) 32) = j_ := ⟨_, rfl⟩
          first | rw [hji54] at H | simp only [hji54] at H
          obtain ⟨c55, H⟩ := oi_ H
          have c55b0 := eq_true c55
          have c55b1 : decide (0 ≤ (ji54)) = true := decide_eq_true c55
          clear c55
          obtain ⟨ji56, hji56⟩ : ∃ j_ : Int, (shr .u64 (IntKind.u64.wrap (rd y275 x53_2)) (ji54)) = j_ := ⟨_, rfl⟩
          first | rw [hji56] at H | simp only [hji56] at H
          have hji56_ : ((IntKind.u64.wrap (rd y275 x53_2)) / 2 ^ min (ji54).toNat 64) = ji56 := hji56
          have hji56z : (ji54) ≤ 64 → ((IntKind.u64.wrap (rd y275 x53_2)) / 2 ^ (ji54).toNat) = ji56 := shr_small hji56
          obtain ⟨c57b0, H⟩ := od_ H
          obtain ⟨y286, hy286⟩ : ∃ y_ : List Int, y_ = (x7_2.set (x53_2 : Int).toNat ((ji56) % 4294967296)) := ⟨_, rfl⟩
          replace H : (nat_Shift.l0 k2 y275 (ji54) y286 y275 (y275.length : Int) (wrap64 (x53_2 + 1))) = some (r1, r2) := by first | (rw [hy286]; with_reducible exact H) | (have H2_ := (Option.bind_some _ _).symm.trans H; rw [hy286]; with_reducible exact H2_) | (have H2_ := (Option.bind_some _ _).symm.trans H; with_reducible exact H2_) | with_reducible exact H | (rw [hy286]; exact H) | exact H
          have Ny286 := md_ hy286
          clear hy286
          have H' := md_ H
          clear H
          have p283 : 0 ≤ (x53_2 : Int) := oq
          have q283 : x53_2 < (y275.length : Int) := oq
          obtain ⟨ad283, e283, hx283_0⟩ := Kd.at_int (Kd.V_reads' HO_51.out).2.2 x53_2 p283 q283
          cases e283
          replace p283 := eq_true p283
          replace q283 := eq_true q283
          have p58 : 0 ≤ (x53_2 : Int) := oq
          have q58 : (x53_2 : Int) < ((x7_2.length : Int) : Int) := oq
          obtain ⟨go58, co58, eo58, gb58, gl58, cl58, HG58⟩ := Kd.R_form HO_7.out (by omega)
          (first | cases eo58 | (injection eo58 with ea_ en_ ec_; (first | subst ea_ | (injection ea_ with ea_; subst ea_)); subst ec_; clear en_))
          have GB58 := md_ gb58
          have GG58 := md_ HG58
          clear gb58 gl58 HG58
          obtain ⟨hx58_0, hf58_0⟩ := Kd.R_celln 0 HO_7.out (x53_2 : Int) p58 q58
          (try simp only [Int.toNat_natCast] at hx58_0)
          (try simp only [Int.toNat_natCast] at hf58_0)
          replace p58 := eq_true p58
          replace q58 := eq_true q58
          have HP59 := Kd.R_putg HO_7.out (x53_2 : Int) ((ji56) % 4294967296)
          go_wp2_with (first | ((with_reducible refine gate_store (t := 119) (p := 80) rfl ?_); refine store_event (t := 119) (p := 80) (v := ?vo_w60) (w1 := (wr.setCell ⟨go58, (x53_2 : Int).toNat, none⟩ (.int .u32 ((ji56) % 4294967296)))) ?hg ?ho ?hn ?hr ?_; (case ho => rfl); (case hg => rfl); (case hn => rfl); (case hr => first | (go_simp; done) | (go_simp; rfl) | (obtain ⟨hx_, hf_⟩ := Kd.R_celln 0 HO_7.out (x53_2 : Int) oq oq; (try simp only [Int.toNat_natCast] at hx_); (try simp only [Int.toNat_natCast] at hf_); first | (go_simp; done) | (go_simp; rfl))); intro w60 hw; have hg : wr.grownBy w60 (some go58) := (by rw [hw]; exact HP59.2); have hp_ : Kd.R (Kd.int .u32) 119 w60 w.heap.size (fun k_ => (w.heap.size ≤ k_)) (.slice (some ⟨go58, 0, none⟩) x7_2.length co58) y286 := (by rw [hw, Ny286.out]; exact HP59.1); clear HP59; replace HO_0 := md_ (Kd.V_afterv (v := (.slice (some ⟨go58, 0, none⟩) x7_2.length co58)) (v1 := (.slice (some ⟨go58, 0, none⟩) x7_2.length co58)) (ok := (fun k_ => (P0_ k_ ∨ w.heap.size ≤ k_))) (vq HO_0.out) hg (.inl rfl)); replace HO_7 := md_ (hp_); replace HO_51 := md_ (Kd.V_afterv (v := (.slice (some ⟨go58, 0, none⟩) x7_2.length co58)) (v1 := (.slice (some ⟨go58, 0, none⟩) x7_2.length co58)) (ok := (fun k_ => (P0_ k_ ∨ w.heap.size ≤ k_))) (vq HO_51.out) hg (.inl rfl)); replace HB := md_ ((by rw [hw]; exact below_set (HB.out) GB58.out : Below w.heap.size w w60)); clear hg hw hp_))
          (try subst hji54)
          go_roundg k2
          case measure => have := HJ3.out; have := HK2.out; omega
          case rel => exact ⟨(y286), (wrap64 (x53_2 + 1)), aq, H', ⟨by have := HJ3.out; have := HK2.out; omega⟩, ⟨vq HO_0.out⟩, ⟨rq HO_7.out⟩, ⟨vq HO_51.out⟩, ⟨bq HB.out⟩⟩
        ·rw [if_neg c41] at H
         have c41b0 := decide_eq_false c41
         clear c41
         replace H := Option.bind_eq_some_iff.mp H
         obtain ⟨t287, A610, H⟩ := H
         have A61 := md_ A610
         clear A610
         simp only [Option.some.injEq, Prod.mk.injEq] at H
         obtain ⟨rfl, rfl⟩ := H
         obtain ⟨Ao62, co62, eo62⟩ := Kd.R_slice HO_7.out
         subst eo62
         go_wp2_with (first | ((with_reducible refine gate_callee (f := 86) rfl ?_); refine goesL_ (some 83) rfl rfl Tryz.func86 (by kernel_rfl) rfl #[.slice Ao62 x7_2.length co62] rfl gq ?_; (with_reducible refine (nat_trim.calls k2 (fun k_ => some k_ = (.slice Ao62 x7_2.length co62 : Value).ownBlock) _ _ x7_2 t287 _ ?side1 A61.out).mono ?_); (case side1 => exact Kd.R_V (Kd.R_tight rfl (HO_7.out))); rintro e w63 ⟨v288, rfl, ho0, hb⟩; refine ⟨_, rfl, ?_⟩; have n0_ := md_ (Kd.V_below (vq HO_0.out) hb); have n1_ := md_ (Kd.R_below (rq HO_7.out) hb); have n2_ := md_ (Kd.V_below (vq HO_51.out) hb); have n3_ := md_ (Kd.V_lower (Kd.V_mono (ok' := fun k_ => (P0_ k_ ∨ w.heap.size ≤ k_)) ho0 (fun k_ hk_ => Or.elim hk_ (fun hs_ => (.inr (((HO_7.out).1 k_ hs_.symm)))) (fun hn_ => (.inr (Nat.le_trans (below_size (bq HB.out)) hn_))))) (below_size (bq HB.out))); have n4_ := md_ (below_step (bq HB.out) hb); clear HO_0; clear HO_7; clear HO_51; clear HB; have HO_0 := n0_; have HO_7 := n1_; have HO_51 := n2_; have HO289 := n3_; have HB := n4_; clear n0_ n1_ n2_ n3_ n4_; (try clear hb); (try clear ho0)))
         go_ret2
         exact ⟨_, by first | rfl | (simp [errW_none, errW_some] <;> rfl) | (simp only [← hji32]; first | rfl | (simp [errW_none, errW_some] <;> rfl)) | (simp [*, errW_none, errW_some] <;> rfl), vq HO289.out, bq HB.out⟩
def bits_Add32.f (a0 : Int) (a1 : Int) (a2 : Int) : Option (Int × Int) := some ((IntKind.u64.wrap ((IntKind.u64.wrap ((IntKind.u64.wrap (a0)) + (IntKind.u64.wrap (a1)))) + (IntKind.u64.wrap (a2)))) % 4294967296, ((IntKind.u64.wrap ((IntKind.u64.wrap ((IntKind.u64.wrap (a0)) + (IntKind.u64.wrap (a1)))) + (IntKind.u64.wrap (a2)))) / 4294967296) % 4294967296)
set_option maxRecDepth 100000 in
theorem bits_Add32.calls (a0 : Int) (a1 : Int) (a2 : Int) (r1 : Int) (r2 : Int) (w : World) (h : bits_Add32.f a0 a1 a2 = some (r1, r2)) :
  Calls Tryz.prog 124 #[.int .u32 a0, .int .u32 a1, .int .u32 a2] w fun e w' => e = .returned (.tuple #[.int .u32 r1, .int .u32 r2]) ∧ Drawn0 w w' := by
 have H : (some ((IntKind.u64.wrap ((IntKind.u64.wrap ((IntKind.u64.wrap (a0)) + (IntKind.u64.wrap (a1)))) + (IntKind.u64.wrap (a2)))) % 4294967296, ((IntKind.u64.wrap ((IntKind.u64.wrap ((IntKind.u64.wrap (a0)) + (IntKind.u64.wrap (a1)))) + (IntKind.u64.wrap (a2)))) / 4294967296) % 4294967296)) = some (r1, r2) := h
 clear h
 simp only [Option.some.injEq, Prod.mk.injEq] at H
 obtain ⟨rfl, rfl⟩ := H
 go_enter Tryz.func124, Tryz.ntmps124
 go_wp2
 go_ret2
 exact ⟨by first | rfl | (simp; done) | (simp [*]; done), by repeat (first | exact Drawn0.refl _ | apply Drawn0.step)⟩
mutual
def nat_Add.j0 : Nat → List Int → List Int → Option (List Int)
 | 0, _, _ => none
 | k + 1, x0, x1 => if 0 ≤ (wrap64 ((x0.length : Int) + 1)) then (if (wrap64 ((x0.length : Int) + 1) : Int).toNat ≤ 70368744177664 then (nat_Add.l0 k x0 x1 (List.replicate (wrap64 ((x0.length : Int) + 1) : Int).toNat 0) 0 x0 (x0.length : Int) 0) else (none)) else (none)
def nat_Add.l0 : Nat → List Int → List Int → List Int → Int → List Int → Int → Int → Option (List Int)
 | 0, _, _, _, _, _, _, _ => none
 | k + 1, x0, x1, x5, x6, x25, x26, x27 => if x27 < x26 then (if 0 ≤ x27 then (if x27 < (x25.length : Int) then (if x27 < (x1.length : Int) then ((bits_Add32.f (rd x25 x27) (rd x1 x27) x6).bind fun bt371 => (if x27 < (x5.length : Int) then (nat_Add.l0 k x0 x1 (x5.set (x27 : Int).toNat bt371.1) bt371.2 x25 x26 (wrap64 (x27 + 1))) else (none))) else ((bits_Add32.f (rd x25 x27) 0 x6).bind fun bt374 => (if x27 < (x5.length : Int) then (nat_Add.l0 k x0 x1 (x5.set (x27 : Int).toNat bt374.1) bt374.2 x25 x26 (wrap64 (x27 + 1))) else (none)))) else (none)) else (none)) else (if 0 ≤ (x0.length : Int) then (if (x0.length : Int) < (x5.length : Int) then ((nat_trim.f k (x5.set ((x0.length : Int) : Int).toNat x6)).bind fun t378 => (some t378)) else (none)) else (none))
end
def nat_Add.f (k : Nat) (l0 : List Int) (l1 : List Int) : Option (List Int) := (nat_trim.f k l0).bind fun t360 => ((nat_trim.f k l1).bind fun t363 => (if (t360.length : Int) < (t363.length : Int) then (nat_Add.j0 k t363 t360) else (nat_Add.j0 k t360 t363)))
set_option maxRecDepth 100000 in
theorem nat_Add.calls (k : Nat) (A0 : Option Addr) (c0 : Nat) (l0 : List Int) (A1 : Option Addr) (c1 : Nat) (l1 : List Int) (r : List Int) (w : World) (hr0 : Kd.C (Kd.int .u32) w A0 l0.length l0) (hc0 : l0.length ≤ c0) (hr1 : Kd.C (Kd.int .u32) w A1 l1.length l1) (hc1 : l1.length ≤ c1) (h : nat_Add.f k l0 l1 = some r) :
  Calls Tryz.prog 93 #[.slice A0 l0.length c0, .slice A1 l1.length c1] w fun e w' => ∃ v0_ : Value, e = .returned (v0_) ∧ Kd.R (Kd.int .u32) 119 w' w.heap.size (fun _ => True) v0_ r ∧ Below w.heap.size w w' := by
 have HO0 := md_ (show Kd.V (Kd.int .u32) 119 w w.heap.size (fun k_ => ((k_ < w.heap.size ∨ k_ < w.heap.size) ∨ w.heap.size ≤ k_)) (.slice A0 l0.length c0) l0 from Kd.V_mono (Kd.V_mk hc0 (Kd.C_F (Kd.heap_int .u32) hr0) : Kd.V (Kd.int .u32) 119 w w.heap.size (fun k_ => k_ < w.heap.size) (.slice A0 l0.length c0) l0) (fun k_ hk => .inl (.inl hk)))
 have HO1 := md_ (show Kd.V (Kd.int .u32) 119 w w.heap.size (fun k_ => ((k_ < w.heap.size ∨ k_ < w.heap.size) ∨ w.heap.size ≤ k_)) (.slice A1 l1.length c1) l1 from Kd.V_mono (Kd.V_mk hc1 (Kd.C_F (Kd.heap_int .u32) hr1) : Kd.V (Kd.int .u32) 119 w w.heap.size (fun k_ => k_ < w.heap.size) (.slice A1 l1.length c1) l1) (fun k_ hk => .inl (.inr hk)))
 have HB := md_ (Below.refl w.heap.size w)
 have H : ((nat_trim.f k l0).bind fun t360 => ((nat_trim.f k l1).bind fun t363 => (if (t360.length : Int) < (t363.length : Int) then (nat_Add.j0 k t363 t360) else (nat_Add.j0 k t360 t363)))) = some r := h
 clear h
 replace H := Option.bind_eq_some_iff.mp H
 obtain ⟨t360, A30, H⟩ := H
 have A3 := md_ A30
 clear A30
 replace H := Option.bind_eq_some_iff.mp H
 obtain ⟨t363, A40, H⟩ := H
 have A4 := md_ A40
 clear A40
 have HC5 := md_ H
 clear H
 go_enter Tryz.func93, Tryz.ntmps93
 go_upto_if 18 with (first | ((with_reducible refine gate_callee (f := 86) rfl ?_); refine goesL_ (some 11) rfl rfl Tryz.func86 (by kernel_rfl) rfl #[.slice A0 l0.length c0] rfl gq ?_; (with_reducible refine (nat_trim.calls k (fun k_ => ((k_ < w.heap.size ∨ k_ < w.heap.size) ∨ w.heap.size ≤ k_)) _ _ l0 t360 _ ?side1 A3.out).mono ?_); (case side1 => exact HO0.out); rintro e w6 ⟨v361, rfl, ho0, hb⟩; refine ⟨_, rfl, ?_⟩; have n0_ := md_ (Kd.V_below (vq HO0.out) hb); have n1_ := md_ (Kd.V_below (vq HO1.out) hb); have n2_ := md_ (Kd.V_lower (Kd.V_mono (ok' := fun k_ => ((k_ < w.heap.size ∨ k_ < w.heap.size) ∨ w.heap.size ≤ k_)) ho0 (fun k_ hk_ => Or.elim hk_ (fun hs_ => hs_) (fun hn_ => (.inr (Nat.le_trans (below_size (bq HB.out)) hn_))))) (below_size (bq HB.out))); have n3_ := md_ (below_step (bq HB.out) hb); clear HO0; clear HO1; clear HB; have HO0 := n0_; have HO1 := n1_; have HO362 := n2_; have HB := n3_; clear n0_ n1_ n2_ n3_; (try clear hb); (try clear ho0)) | ((with_reducible refine gate_callee (f := 86) rfl ?_); refine goesL_ (some 13) rfl rfl Tryz.func86 (by kernel_rfl) rfl #[.slice A1 l1.length c1] rfl gq ?_; (with_reducible refine (nat_trim.calls k (fun k_ => ((k_ < w.heap.size ∨ k_ < w.heap.size) ∨ w.heap.size ≤ k_)) _ _ l1 t363 _ ?side1 A4.out).mono ?_); (case side1 => exact HO1.out); rintro e w7 ⟨v364, rfl, ho0, hb⟩; refine ⟨_, rfl, ?_⟩; have n0_ := md_ (Kd.V_below (vq HO0.out) hb); have n1_ := md_ (Kd.V_below (vq HO1.out) hb); have n2_ := md_ (Kd.V_below (vq HO362.out) hb); have n3_ := md_ (Kd.V_lower (Kd.V_mono (ok' := fun k_ => ((k_ < w.heap.size ∨ k_ < w.heap.size) ∨ w.heap.size ≤ k_)) ho0 (fun k_ hk_ => Or.elim hk_ (fun hs_ => hs_) (fun hn_ => (.inr (Nat.le_trans (below_size (bq HB.out)) hn_))))) (below_size (bq HB.out))); have n4_ := md_ (below_step (bq HB.out) hb); clear HO0; clear HO1; clear HO362; clear HB; have HO0 := n0_; have HO1 := n1_; have HO362 := n2_; have HO365 := n3_; have HB := n4_; clear n0_ n1_ n2_ n3_ n4_; (try clear hb); (try clear ho0); obtain ⟨Ao8, co8, eo8⟩ := Kd.V_slice HO362.out; subst eo8; obtain ⟨Ao9, co9, eo9⟩ := Kd.V_slice HO365.out; subst eo9))
 (try simp only [Act.put, List.setIfInBounds_toArray, List.set_cons_zero, List.set_cons_succ])
 go_cut [0, 1] (fun v0 v1 wc => ∃ (kq : Nat) (x0_4 : List Int) (x1_4 : List Int), Aside0 (nat_Add.j0 kq x0_4 x1_4 = some r) ∧ Aside0 (kq ≤ k) ∧ Aside0 (Kd.V (Kd.int .u32) 119 wc w.heap.size (fun k_ => ((k_ < w.heap.size ∨ k_ < w.heap.size) ∨ w.heap.size ≤ k_)) v0 x0_4) ∧ Aside0 (Kd.V (Kd.int .u32) 119 wc w.heap.size (fun k_ => ((k_ < w.heap.size ∨ k_ < w.heap.size) ∨ w.heap.size ≤ k_)) v1 x1_4) ∧ Aside0 (Below w.heap.size w wc))
 case first =>
  have H := HC5.out
  clear HC5
  by_cases c10 : (t360.length : Int) < (t363.length : Int)
  ·rw [if_pos c10] at H
   have c10b0 := decide_eq_true c10
   have c10b1 : decide (t360.length < t363.length) = true := decide_eq_true (Int.ofNat_lt.mp c10)
   clear c10
   (first | rw [c10b0] | (simp only [i64_w, i32_w]; rw [c10b0]) | rw [c10b1] | skip)
   have H' := md_ H
   clear H
   go_wp2
   go_meet
   case rel => exact ⟨_, (t363), (t360), H', ⟨by first | omega | exact Nat.le_refl _⟩, ⟨vq HO365.out⟩, ⟨vq HO362.out⟩, ⟨bq HB.out⟩⟩
  ·rw [if_neg c10] at H
   have c10b0 := decide_eq_false c10
   have c10b1 : decide (t360.length < t363.length) = false := decide_eq_false (fun h => c10 (Int.ofNat_lt.mpr h))
   clear c10
   (first | rw [c10b0] | (simp only [i64_w, i32_w]; rw [c10b0]) | rw [c10b1] | skip)
   have H' := md_ H
   clear H
   go_wp2
   go_meet
   case rel => exact ⟨_, (t360), (t363), H', ⟨by first | omega | exact Nat.le_refl _⟩, ⟨vq HO362.out⟩, ⟨vq HO365.out⟩, ⟨bq HB.out⟩⟩
 case rest =>
  clear HC5
  (try clear c1); (try clear c2); (try clear p2); (try clear c3); (try clear c10); (try clear c10b0); (try clear c10b1)
  obtain ⟨kq, x0_4, x1_4, HA, HJ4, HO_0, HO_1, HB⟩ := hcut
  cases kq with
  | zero => exact absurd HA.out (by simp [nat_Add.j0])
  | succ kj4 =>
   have H := HA.out
   clear HA
   simp only [nat_Add.j0] at H
   obtain ⟨ji11, hji11⟩ : ∃ j_ : Int, (wrap64 ((x0_4.length : Int) + 1)) = j_ := ⟨_, rfl⟩
   first | rw [hji11] at H | simp only [hji11] at H
   have hji11w : (IntKind.i64.wrap ((x0_4.length : Int) + 1)) = ji11 := (i64_w _).trans hji11
   obtain ⟨c12, H⟩ := oi_ H
   have c12b0 := eq_true c12
   have c12b1 : decide (0 ≤ (ji11)) = true := decide_eq_true c12
   clear c12
   obtain ⟨c13, H⟩ := oi_ H
   have c13b0 := eq_true c13
   have c13b1 : decide ((ji11 : Int).toNat ≤ 70368744177664) = true := decide_eq_true c13
   clear c13
   obtain ⟨y366, hy366⟩ : ∃ y_ : List Int, y_ = (List.replicate (ji11 : Int).toNat 0) := ⟨_, rfl⟩
   replace H : (nat_Add.l0 kj4 x0_4 x1_4 y366 0 x0_4 (x0_4.length : Int) 0) = some r := by first | (rw [hy366]; with_reducible exact H) | (have H2_ := (Option.bind_some _ _).symm.trans H; rw [hy366]; with_reducible exact H2_) | (have H2_ := (Option.bind_some _ _).symm.trans H; with_reducible exact H2_) | with_reducible exact H | (rw [hy366]; exact H) | exact H
   have Ny366 := md_ hy366
   clear hy366
   have H' := md_ H
   clear H
   obtain ⟨Ao14, co14, eo14⟩ := Kd.V_slice HO_0.out
   subst eo14
   go_wp2_with (first | ((with_reducible refine gate_dst (N := 24) rfl ?_); refine Kd.R_make (Kd.int .u32) _ 119 rfl (N := 24) rfl 96 _ _ rfl ji11 rfl rfl Tryz.underlying96 (.int .u32 0) 4 info119 rfl (by decide) (by omega) 0 (ok := fun _ => True) (okp := fun _ => True) rfl (fun _ hk => hk) trivial oq (Nat.le_trans (Nat.mul_le_mul_right _ (oq : ji11.toNat ≤ 70368744177664)) (by omega)) (Below.refl _ _) (Nat.le_refl _) ?_; intro v367 w15 ho16 hb hg_ hnew_; clear hg_ hnew_; (first | rw [← Ny366.out] at ho16 | (simp only [Int.reduceToNat] at ho16; rw [← Ny366.out] at ho16)); replace HO_0 := md_ (Kd.V_elder' (vq HO_0.out) (Kd.R_base ho16) hb); replace HO_1 := md_ (Kd.V_elder' (vq HO_1.out) (Kd.R_base ho16) hb); have HO368 := md_ (Kd.R_lower (Kd.R_newM (M := fun k_ => (w.heap.size ≤ k_)) ho16 (below_size (bq HB.out)) (fun k_ h_ => h_)) (below_size (bq HB.out))); replace HB := bb_ HB hb; clear hb ho16))
   go_loopg [6, 27] kj4 (fun kq v6 v27 w' => ∃ (x5_2 : List Int) (x6_2 : Int) (x27_2 : Int), v6 = .int .u32 x6_2 ∧ v27 = .int .i64 x27_2 ∧ Aside0 (nat_Add.l0 kq x0_4 x1_4 x5_2 x6_2 x0_4 (x0_4.length : Int) x27_2 = some r) ∧ Aside0 (kq ≤ kj4) ∧ Aside0 (Kd.V (Kd.int .u32) 119 w' w.heap.size (fun k_ => ((k_ < w.heap.size ∨ k_ < w.heap.size) ∨ w.heap.size ≤ k_) ∧ some k_ ≠ (v367 : Value).ownBlock) (.slice Ao14 x0_4.length co14) x0_4) ∧ Aside0 (Kd.V (Kd.int .u32) 119 w' w.heap.size (fun k_ => ((k_ < w.heap.size ∨ k_ < w.heap.size) ∨ w.heap.size ≤ k_) ∧ some k_ ≠ (v367 : Value).ownBlock) u1 x1_4) ∧ Aside0 (Kd.R (Kd.int .u32) 119 w' w.heap.size (fun k_ => (w.heap.size ≤ k_)) v367 x5_2) ∧ Aside0 (Kd.V (Kd.int .u32) 119 w' w.heap.size (fun k_ => ((k_ < w.heap.size ∨ k_ < w.heap.size) ∨ w.heap.size ≤ k_) ∧ some k_ ≠ (v367 : Value).ownBlock) (.slice Ao14 x0_4.length co14) x0_4) ∧ Aside0 (Below w.heap.size w w'))
   case atStart => exact ⟨(y366), (0), (0), aq, aq, H', ⟨Nat.le_refl _⟩, ⟨vq HO_0.out⟩, ⟨vq HO_1.out⟩, ⟨by (with_reducible repeat (first | apply Kd.R_alloc | apply Kd.R_drewN | apply Kd.R_drew)); exact Kd.R_mono HO368.out (fun _ hk => hk.1)⟩, ⟨vq HO_0.out⟩, ⟨bq HB.out⟩⟩
   case round =>
    clear H'
    (try clear c1); (try clear c2); (try clear p2); (try clear c3); (try clear p6); (try clear c10); (try clear c10b0); (try clear c10b1); (try clear c12); (try clear c12b0); (try clear c12b1); (try clear c13); (try clear c13b0); (try clear c13b1); (try clear p2)
    obtain ⟨x5_2, x6_2, x27_2, rfl, rfl, HA, HK2, HO_0, HO_1, HO_5, HO_25, HB⟩ := hrel
    cases gk with
    | zero => exact absurd HA.out (by simp [nat_Add.l0])
    | succ k2 =>
     have H := HA.out
     clear HA
     simp only [nat_Add.l0] at H
     by_cases c17 : x27_2 < (x0_4.length : Int)
     ·rw [if_pos c17] at H
      have c17b0 := decide_eq_true c17
      clear c17
      obtain ⟨c18b0, H⟩ := od_ H
      obtain ⟨c19b0, H⟩ := od_ H
      by_cases c20 : x27_2 < (x1_4.length : Int)
      ·rw [if_pos c20] at H
       have c20b0 := decide_eq_true c20
       clear c20
       replace H := Option.bind_eq_some_iff.mp H
       obtain ⟨⟨t371, t372⟩, A210, H⟩ := H
       dsimp only at H
       have A21 := md_ A210
       clear A210
       obtain ⟨c22b0, H⟩ := od_ H
       obtain ⟨y373, hy373⟩ : ∃ y_ : List Int, y_ = (x5_2.set (x27_2 : Int).toNat t371) := ⟨_, rfl⟩
       replace H : (nat_Add.l0 k2 x0_4 x1_4 y373 t372 x0_4 (x0_4.length : Int) (wrap64 (x27_2 + 1))) = some r := by first | (rw [hy373]; with_reducible exact H) | (have H2_ := (Option.bind_some _ _).symm.trans H; rw [hy373]; with_reducible exact H2_) | (have H2_ := (Option.bind_some _ _).symm.trans H; with_reducible exact H2_) | with_reducible exact H | (rw [hy373]; exact H) | exact H
       have Ny373 := md_ hy373
       clear hy373
       have H' := md_ H
       clear H
       have p369 : 0 ≤ (x27_2 : Int) := oq
       have q369 : x27_2 < (x0_4.length : Int) := oq
       obtain ⟨ad369, e369, hx369_0⟩ := Kd.at_int (Kd.V_reads' HO_25.out).2.2 x27_2 p369 q369
       cases e369
       replace p369 := eq_true p369
       replace q369 := eq_true q369
       obtain ⟨Ao24, co24, eo24⟩ := Kd.V_slice HO_1.out
       subst eo24
       have p370 : 0 ≤ (x27_2 : Int) := oq
       have q370 : x27_2 < (x1_4.length : Int) := oq
       obtain ⟨ad370, e370, hx370_0⟩ := Kd.at_int (Kd.V_reads' HO_1.out).2.2 x27_2 p370 q370
       cases e370
       replace p370 := eq_true p370
       replace q370 := eq_true q370
       go_wp2_with (first | ((with_reducible refine gate_callee (f := 124) rfl ?_); refine goesL_ (some 46) rfl rfl Tryz.func124 (by kernel_rfl) rfl #[.int .u32 (rd x0_4 x27_2), .int .u32 (rd x1_4 x27_2), .int .u32 x6_2] rfl gq ?_; (with_reducible refine (bits_Add32.calls (rd x0_4 x27_2) (rd x1_4 x27_2) x6_2 t371 t372 _ A21.out).mono ?_); rintro e w' ⟨rfl, ⟨nd, rfl⟩⟩; refine ⟨_, rfl, ?_⟩; (try (rw [drewN_self wr]; generalize hq_ : World.drewN wr _ = wr; have n0_ : Aside0 (Kd.V (Kd.int .u32) 119 wr w.heap.size (fun k_ => ((k_ < w.heap.size ∨ k_ < w.heap.size) ∨ w.heap.size ≤ k_) ∧ some k_ ≠ (v367 : Value).ownBlock) (.slice (some ad369) x0_4.length co14) x0_4) := ⟨by rw [← hq_]; exact (vq HO_0.out)⟩; have n1_ : Aside0 (Kd.V (Kd.int .u32) 119 wr w.heap.size (fun k_ => ((k_ < w.heap.size ∨ k_ < w.heap.size) ∨ w.heap.size ≤ k_) ∧ some k_ ≠ (v367 : Value).ownBlock) (.slice (some ad370) x1_4.length co24) x1_4) := ⟨by rw [← hq_]; exact (vq HO_1.out)⟩; have n2_ : Aside0 (Kd.V (Kd.int .u32) 119 wr w.heap.size (fun k_ => ((k_ < w.heap.size ∨ k_ < w.heap.size) ∨ w.heap.size ≤ k_) ∧ some k_ ≠ (v367 : Value).ownBlock) (.slice (some ad369) x0_4.length co14) x0_4) := ⟨by rw [← hq_]; exact (vq HO_25.out)⟩; have n3_ : Aside0 (Kd.R (Kd.int .u32) 119 wr w.heap.size (fun k_ => (w.heap.size ≤ k_)) v367 x5_2) := ⟨by rw [← hq_]; exact (rq HO_5.out)⟩; have n4_ : Aside0 (Below w.heap.size w wr) := ⟨by rw [← hq_]; exact (bq HB.out)⟩; clear HO_0 HO_1 HO_25 HO_5 HB hq_; have HO_0 := n0_; have HO_1 := n1_; have HO_25 := n2_; have HO_5 := n3_; have HB := n4_; clear n0_ n1_ n2_ n3_ n4_)); have p23 : 0 ≤ (x27_2 : Int) := oq; have q23 : (x27_2 : Int) < ((x5_2.length : Int) : Int) := oq; obtain ⟨go23, co23, eo23, gb23, gl23, cl23, HG23⟩ := Kd.R_form HO_5.out (by omega); (first | cases eo23 | (injection eo23 with ea_ en_ ec_; (first | subst ea_ | (injection ea_ with ea_; subst ea_)); subst ec_; clear en_)); have GB23 := md_ gb23; have GG23 := md_ HG23; clear gb23 gl23 HG23; obtain ⟨hx23_0, hf23_0⟩ := Kd.R_celln 0 HO_5.out (x27_2 : Int) p23 q23; (try simp only [Int.toNat_natCast] at hx23_0); (try simp only [Int.toNat_natCast] at hf23_0); replace p23 := eq_true p23; replace q23 := eq_true q23; obtain ⟨hy25_, hz25_⟩ := Kd.R_celln 0 HO_5.out (x27_2 : Int) oq oq; have HP25 := Kd.R_putg HO_5.out (x27_2 : Int) t371) | ((with_reducible refine gate_store (t := 119) (p := 49) rfl ?_); refine store_event (t := 119) (p := 49) (v := ?vo_w26) (w1 := (wr.setCell ⟨go23, (x27_2 : Int).toNat, none⟩ (.int .u32 t371))) ?hg ?ho ?hn ?hr ?_; (case ho => rfl); (case hg => rfl); (case hn => rfl); (case hr => first | (go_simp; done) | (go_simp; rfl) | (obtain ⟨hx_, hf_⟩ := Kd.R_celln 0 HO_5.out (x27_2 : Int) oq oq; (try simp only [Int.toNat_natCast] at hx_); (try simp only [Int.toNat_natCast] at hf_); first | (go_simp; done) | (go_simp; rfl))); intro w26 hw; have hg : wr.grownBy w26 (some go23) := (by rw [hw]; exact HP25.2); have hp_ : Kd.R (Kd.int .u32) 119 w26 w.heap.size (fun k_ => (w.heap.size ≤ k_)) (.slice (some ⟨go23, 0, none⟩) x5_2.length co23) y373 := (by rw [hw, Ny373.out]; exact HP25.1); clear HP25; replace HO_0 := md_ (Kd.V_afterv (v := (.slice (some ⟨go23, 0, none⟩) x5_2.length co23)) (v1 := (.slice (some ⟨go23, 0, none⟩) x5_2.length co23)) (ok := (fun k_ => ((k_ < w.heap.size ∨ k_ < w.heap.size) ∨ w.heap.size ≤ k_))) (vq HO_0.out) hg (.inl rfl)); replace HO_1 := md_ (Kd.V_afterv (v := (.slice (some ⟨go23, 0, none⟩) x5_2.length co23)) (v1 := (.slice (some ⟨go23, 0, none⟩) x5_2.length co23)) (ok := (fun k_ => ((k_ < w.heap.size ∨ k_ < w.heap.size) ∨ w.heap.size ≤ k_))) (vq HO_1.out) hg (.inl rfl)); replace HO_5 := md_ (hp_); replace HO_25 := md_ (Kd.V_afterv (v := (.slice (some ⟨go23, 0, none⟩) x5_2.length co23)) (v1 := (.slice (some ⟨go23, 0, none⟩) x5_2.length co23)) (ok := (fun k_ => ((k_ < w.heap.size ∨ k_ < w.heap.size) ∨ w.heap.size ≤ k_))) (vq HO_25.out) hg (.inl rfl)); replace HB := md_ ((by rw [hw]; exact below_set (HB.out) GB23.out : Below w.heap.size w w26)); clear hg hw hp_))
       go_roundg k2
       case measure => have := HJ4.out; have := HK2.out; omega
       case rel => exact ⟨(y373), (t372), (wrap64 (x27_2 + 1)), aq, aq, H', ⟨by have := HJ4.out; have := HK2.out; omega⟩, ⟨vq HO_0.out⟩, ⟨vq HO_1.out⟩, ⟨rq HO_5.out⟩, ⟨vq HO_25.out⟩, ⟨bq HB.out⟩⟩
      ·rw [if_neg c20] at H
       have c20b0 := decide_eq_false c20
       clear c20
       replace H := Option.bind_eq_some_iff.mp H
       obtain ⟨⟨t374, t375⟩, A270, H⟩ := H
       dsimp only at H
       have A27 := md_ A270
       clear A270
       obtain ⟨c28b0, H⟩ := od_ H
       obtain ⟨y376, hy376⟩ : ∃ y_ : List Int, y_ = (x5_2.set (x27_2 : Int).toNat t374) := ⟨_, rfl⟩
       replace H : (nat_Add.l0 k2 x0_4 x1_4 y376 t375 x0_4 (x0_4.length : Int) (wrap64 (x27_2 + 1))) = some r := by first | (rw [hy376]; with_reducible exact H) | (have H2_ := (Option.bind_some _ _).symm.trans H; rw [hy376]; with_reducible exact H2_) | (have H2_ := (Option.bind_some _ _).symm.trans H; with_reducible exact H2_) | with_reducible exact H | (rw [hy376]; exact H) | exact H
       have Ny376 := md_ hy376
       clear hy376
       have H' := md_ H
       clear H
       have p369 : 0 ≤ (x27_2 : Int) := oq
       have q369 : x27_2 < (x0_4.length : Int) := oq
       obtain ⟨ad369, e369, hx369_0⟩ := Kd.at_int (Kd.V_reads' HO_25.out).2.2 x27_2 p369 q369
       cases e369
       replace p369 := eq_true p369
       replace q369 := eq_true q369
       obtain ⟨Ao30, co30, eo30⟩ := Kd.V_slice HO_1.out
       subst eo30
       go_wp2_with (first | ((with_reducible refine gate_callee (f := 124) rfl ?_); refine goesL_ (some 46) rfl rfl Tryz.func124 (by kernel_rfl) rfl #[.int .u32 (rd x0_4 x27_2), .int .u32 0, .int .u32 x6_2] rfl gq ?_; (with_reducible refine (bits_Add32.calls (rd x0_4 x27_2) 0 x6_2 t374 t375 _ A27.out).mono ?_); rintro e w' ⟨rfl, ⟨nd, rfl⟩⟩; refine ⟨_, rfl, ?_⟩; (try (rw [drewN_self wr]; generalize hq_ : World.drewN wr _ = wr; have n0_ : Aside0 (Kd.V (Kd.int .u32) 119 wr w.heap.size (fun k_ => ((k_ < w.heap.size ∨ k_ < w.heap.size) ∨ w.heap.size ≤ k_) ∧ some k_ ≠ (v367 : Value).ownBlock) (.slice (some ad369) x0_4.length co14) x0_4) := ⟨by rw [← hq_]; exact (vq HO_0.out)⟩; have n1_ : Aside0 (Kd.V (Kd.int .u32) 119 wr w.heap.size (fun k_ => ((k_ < w.heap.size ∨ k_ < w.heap.size) ∨ w.heap.size ≤ k_) ∧ some k_ ≠ (v367 : Value).ownBlock) (.slice Ao30 x1_4.length co30) x1_4) := ⟨by rw [← hq_]; exact (vq HO_1.out)⟩; have n2_ : Aside0 (Kd.V (Kd.int .u32) 119 wr w.heap.size (fun k_ => ((k_ < w.heap.size ∨ k_ < w.heap.size) ∨ w.heap.size ≤ k_) ∧ some k_ ≠ (v367 : Value).ownBlock) (.slice (some ad369) x0_4.length co14) x0_4) := ⟨by rw [← hq_]; exact (vq HO_25.out)⟩; have n3_ : Aside0 (Kd.R (Kd.int .u32) 119 wr w.heap.size (fun k_ => (w.heap.size ≤ k_)) v367 x5_2) := ⟨by rw [← hq_]; exact (rq HO_5.out)⟩; have n4_ : Aside0 (Below w.heap.size w wr) := ⟨by rw [← hq_]; exact (bq HB.out)⟩; clear HO_0 HO_1 HO_25 HO_5 HB hq_; have HO_0 := n0_; have HO_1 := n1_; have HO_25 := n2_; have HO_5 := n3_; have HB := n4_; clear n0_ n1_ n2_ n3_ n4_)); have p29 : 0 ≤ (x27_2 : Int) := oq; have q29 : (x27_2 : Int) < ((x5_2.length : Int) : Int) := oq; obtain ⟨go29, co29, eo29, gb29, gl29, cl29, HG29⟩ := Kd.R_form HO_5.out (by omega); (first | cases eo29 | (injection eo29 with ea_ en_ ec_; (first | subst ea_ | (injection ea_ with ea_; subst ea_)); subst ec_; clear en_)); have GB29 := md_ gb29; have GG29 := md_ HG29; clear gb29 gl29 HG29; obtain ⟨hx29_0, hf29_0⟩ := Kd.R_celln 0 HO_5.out (x27_2 : Int) p29 q29; (try simp only [Int.toNat_natCast] at hx29_0); (try simp only [Int.toNat_natCast] at hf29_0); replace p29 := eq_true p29; replace q29 := eq_true q29; obtain ⟨hy31_, hz31_⟩ := Kd.R_celln 0 HO_5.out (x27_2 : Int) oq oq; have HP31 := Kd.R_putg HO_5.out (x27_2 : Int) t374) | ((with_reducible refine gate_store (t := 119) (p := 49) rfl ?_); refine store_event (t := 119) (p := 49) (v := ?vo_w32) (w1 := (wr.setCell ⟨go29, (x27_2 : Int).toNat, none⟩ (.int .u32 t374))) ?hg ?ho ?hn ?hr ?_; (case ho => rfl); (case hg => rfl); (case hn => rfl); (case hr => first | (go_simp; done) | (go_simp; rfl) | (obtain ⟨hx_, hf_⟩ := Kd.R_celln 0 HO_5.out (x27_2 : Int) oq oq; (try simp only [Int.toNat_natCast] at hx_); (try simp only [Int.toNat_natCast] at hf_); first | (go_simp; done) | (go_simp; rfl))); intro w32 hw; have hg : wr.grownBy w32 (some go29) := (by rw [hw]; exact HP31.2); have hp_ : Kd.R (Kd.int .u32) 119 w32 w.heap.size (fun k_ => (w.heap.size ≤ k_)) (.slice (some ⟨go29, 0, none⟩) x5_2.length co29) y376 := (by rw [hw, Ny376.out]; exact HP31.1); clear HP31; replace HO_0 := md_ (Kd.V_afterv (v := (.slice (some ⟨go29, 0, none⟩) x5_2.length co29)) (v1 := (.slice (some ⟨go29, 0, none⟩) x5_2.length co29)) (ok := (fun k_ => ((k_ < w.heap.size ∨ k_ < w.heap.size) ∨ w.heap.size ≤ k_))) (vq HO_0.out) hg (.inl rfl)); replace HO_1 := md_ (Kd.V_afterv (v := (.slice (some ⟨go29, 0, none⟩) x5_2.length co29)) (v1 := (.slice (some ⟨go29, 0, none⟩) x5_2.length co29)) (ok := (fun k_ => ((k_ < w.heap.size ∨ k_ < w.heap.size) ∨ w.heap.size ≤ k_))) (vq HO_1.out) hg (.inl rfl)); replace HO_5 := md_ (hp_); replace HO_25 := md_ (Kd.V_afterv (v := (.slice (some ⟨go29, 0, none⟩) x5_2.length co29)) (v1 := (.slice (some ⟨go29, 0, none⟩) x5_2.length co29)) (ok := (fun k_ => ((k_ < w.heap.size ∨ k_ < w.heap.size) ∨ w.heap.size ≤ k_))) (vq HO_25.out) hg (.inl rfl)); replace HB := md_ ((by rw [hw]; exact below_set (HB.out) GB29.out : Below w.heap.size w w32)); clear hg hw hp_))
       go_roundg k2
       case measure => have := HJ4.out; have := HK2.out; omega
       case rel => exact ⟨(y376), (t375), (wrap64 (x27_2 + 1)), aq, aq, H', ⟨by have := HJ4.out; have := HK2.out; omega⟩, ⟨vq HO_0.out⟩, ⟨vq HO_1.out⟩, ⟨rq HO_5.out⟩, ⟨vq HO_25.out⟩, ⟨bq HB.out⟩⟩
     ·rw [if_neg c17] at H
      have c17b0 := decide_eq_false c17
      clear c17
      obtain ⟨c33, H⟩ := oi_ H
      have c33b0 : decide (0 ≤ (x0_4.length : Int)) = true := decide_eq_true c33
      have c33b1 : decide (0 ≤ x0_4.length) = true := decide_eq_true (by omega)
      clear c33
      obtain ⟨c34, H⟩ := oi_ H
      have c34b0 : decide ((x0_4.length : Int) < (x5_2.length : Int)) = true := decide_eq_true c34
      have c34b1 : decide (x0_4.length < x5_2.length) = true := decide_eq_true (Int.ofNat_lt.mp c34)
      clear c34
      obtain ⟨y377, hy377⟩ : ∃ y_ : List Int, y_ = (x5_2.set ((x0_4.length : Int) : Int).toNat x6_2) := ⟨_, rfl⟩
      replace H : ((nat_trim.f k2 y377).bind fun t378 => (some t378)) = some r := by first | (rw [hy377]; with_reducible exact H) | (have H2_ := (Option.bind_some _ _).symm.trans H; rw [hy377]; with_reducible exact H2_) | (have H2_ := (Option.bind_some _ _).symm.trans H; with_reducible exact H2_) | with_reducible exact H | (rw [hy377]; exact H) | exact H
      have Ny377 := md_ hy377
      clear hy377
      replace H := Option.bind_eq_some_iff.mp H
      obtain ⟨t378, A360, H⟩ := H
      have A36 := md_ A360
      clear A360
      obtain rfl := Option.some.inj H
      have p35 : 0 ≤ ((x0_4.length : Int) : Int) := oq
      have q35 : ((x0_4.length : Int) : Int) < ((x5_2.length : Int) : Int) := oq
      obtain ⟨go35, co35, eo35, gb35, gl35, cl35, HG35⟩ := Kd.R_form HO_5.out (by omega)
      (first | cases eo35 | (injection eo35 with ea_ en_ ec_; (first | subst ea_ | (injection ea_ with ea_; subst ea_)); subst ec_; clear en_))
      have GB35 := md_ gb35
      have GG35 := md_ HG35
      clear gb35 gl35 HG35
      obtain ⟨hx35_0, hf35_0⟩ := Kd.R_celln 0 HO_5.out ((x0_4.length : Int) : Int) p35 q35
      (try simp only [Int.toNat_natCast] at hx35_0)
      (try simp only [Int.toNat_natCast] at hf35_0)
      replace p35 := eq_true p35
      replace q35 := eq_true q35
      have HP37 := Kd.R_putg HO_5.out ((x0_4.length : Int) : Int) x6_2
      go_wp2_with (first | ((with_reducible refine gate_store (t := 119) (p := 55) rfl ?_); refine store_event (t := 119) (p := 55) (v := ?vo_w38) (w1 := (wr.setCell ⟨go35, ((x0_4.length : Int) : Int).toNat, none⟩ (.int .u32 x6_2))) ?hg ?ho ?hn ?hr ?_; (case ho => rfl); (case hg => rfl); (case hn => rfl); (case hr => first | (go_simp; done) | (go_simp; rfl) | (obtain ⟨hx_, hf_⟩ := Kd.R_celln 0 HO_5.out ((x0_4.length : Int) : Int) oq oq; (try simp only [Int.toNat_natCast] at hx_); (try simp only [Int.toNat_natCast] at hf_); first | (go_simp; done) | (go_simp; rfl))); intro w38 hw; have hg : wr.grownBy w38 (some go35) := (by rw [hw]; exact HP37.2); have hp_ : Kd.R (Kd.int .u32) 119 w38 w.heap.size (fun k_ => (w.heap.size ≤ k_)) (.slice (some ⟨go35, 0, none⟩) x5_2.length co35) y377 := (by rw [hw, Ny377.out]; exact HP37.1); clear HP37; replace HO_0 := md_ (Kd.V_afterv (v := (.slice (some ⟨go35, 0, none⟩) x5_2.length co35)) (v1 := (.slice (some ⟨go35, 0, none⟩) x5_2.length co35)) (ok := (fun k_ => ((k_ < w.heap.size ∨ k_ < w.heap.size) ∨ w.heap.size ≤ k_))) (vq HO_0.out) hg (.inl rfl)); replace HO_1 := md_ (Kd.V_afterv (v := (.slice (some ⟨go35, 0, none⟩) x5_2.length co35)) (v1 := (.slice (some ⟨go35, 0, none⟩) x5_2.length co35)) (ok := (fun k_ => ((k_ < w.heap.size ∨ k_ < w.heap.size) ∨ w.heap.size ≤ k_))) (vq HO_1.out) hg (.inl rfl)); replace HO_5 := md_ (hp_); replace HO_25 := md_ (Kd.V_afterv (v := (.slice (some ⟨go35, 0, none⟩) x5_2.length co35)) (v1 := (.slice (some ⟨go35, 0, none⟩) x5_2.length co35)) (ok := (fun k_ => ((k_ < w.heap.size ∨ k_ < w.heap.size) ∨ w.heap.size ≤ k_))) (vq HO_25.out) hg (.inl rfl)); replace HB := md_ ((by rw [hw]; exact below_set (HB.out) GB35.out : Below w.heap.size w w38)); clear hg hw hp_) | ((with_reducible refine gate_callee (f := 86) rfl ?_); refine goesL_ (some 57) rfl rfl Tryz.func86 (by kernel_rfl) rfl #[.slice (some ⟨go35, 0, none⟩) y377.length co35] rfl (by (try simp only [List.map_toArray, List.map_cons, List.map_nil]); first | done | (rw [show y377.length = x5_2.length from (Kd.R_reads' HO_5.out).1.symm] <;> rfl) | rfl | (simp only [List.length_drop, List.length_take]; rfl)) ?_; (with_reducible refine (nat_trim_told k2 _ _ y377 t378 _ ?side1 ?side2 A36.out).mono ?_); (case side1 => exact (Kd.R_reads' HO_5.out).2.2); (case side2 => exact Nat.le_trans (Nat.le_of_eq (Kd.R_reads' HO_5.out).1.symm) (Kd.R_reads' HO_5.out).2.1); rintro e w' ⟨rfl, rfl⟩; refine ⟨_, rfl, ?_⟩))
      go_ret
      exact ⟨_, by first | rfl | (simp [errW_none, errW_some] <;> rfl) | (simp only [← hji11]; first | rfl | (simp [errW_none, errW_some] <;> rfl)) | (simp [*, errW_none, errW_some] <;> rfl), nat_trim_row A36.out (Kd.R_reads' HO_5.out).2.2 HO_5.out, bq HB.out⟩
def nat_Compare.l0 : Nat → List Int → List Int → Int → Option (Int)
 | 0, _, _, _ => none
 | k + 1, x0, x1, x5 => if x5 ≥ 0 then (if 0 ≤ x5 then (if x5 < (x0.length : Int) then (if x5 < (x1.length : Int) then (if (rd x0 x5) < (rd x1 x5) then (some (-1)) else (if (rd x0 x5) > (rd x1 x5) then (some 1) else (nat_Compare.l0 k x0 x1 (wrap64 (x5 - 1))))) else (none)) else (none)) else (none)) else (some 0)
def nat_Compare.f (k : Nat) (l0 : List Int) (l1 : List Int) : Option (Int) := (nat_trim.f k l0).bind fun t381 => ((nat_trim.f k l1).bind fun t384 => (if (t381.length : Int) = (t384.length : Int) then (nat_Compare.l0 k t381 t384 (wrap64 ((t381.length : Int) - 1))) else (if (t381.length : Int) < (t384.length : Int) then (some (-1)) else (some 1))))
set_option maxRecDepth 100000 in
theorem nat_Compare.calls (k : Nat) (A0 : Option Addr) (c0 : Nat) (l0 : List Int) (A1 : Option Addr) (c1 : Nat) (l1 : List Int) (r : Int) (w : World) (hr0 : Kd.C (Kd.int .u32) w A0 l0.length l0) (hc0 : l0.length ≤ c0) (hr1 : Kd.C (Kd.int .u32) w A1 l1.length l1) (hc1 : l1.length ≤ c1) (h : nat_Compare.f k l0 l1 = some r) :
  Calls Tryz.prog 91 #[.slice A0 l0.length c0, .slice A1 l1.length c1] w fun e w' => e = .returned (.int .i64 r) ∧ Below w.heap.size w w' := by
 have HR0 := md_ hr0
 have HC0 := md_ hc0
 clear hr0 hc0
 have HR1 := md_ hr1
 have HC1 := md_ hc1
 clear hr1 hc1
 have HB := md_ (Below.refl w.heap.size w)
 have H : ((nat_trim.f k l0).bind fun t381 => ((nat_trim.f k l1).bind fun t384 => (if (t381.length : Int) = (t384.length : Int) then (nat_Compare.l0 k t381 t384 (wrap64 ((t381.length : Int) - 1))) else (if (t381.length : Int) < (t384.length : Int) then (some (-1)) else (some 1))))) = some r := h
 clear h
 replace H := Option.bind_eq_some_iff.mp H
 obtain ⟨t381, A30, H⟩ := H
 have A3 := md_ A30
 clear A30
 replace H := Option.bind_eq_some_iff.mp H
 obtain ⟨t384, A40, H⟩ := H
 have A4 := md_ A40
 clear A40
 by_cases c5 : (t381.length : Int) = (t384.length : Int)
 ·rw [if_pos c5] at H
  have c5b0 : ((t381.length : Int) == (t384.length : Int)) = true := beq_iff_eq.mpr c5
  have c5b1 : ((t381.length : Int) != (t384.length : Int)) = false := bne_eq_false_iff_eq.mpr c5
  have c5b2 : (t381.length == t384.length) = true := by first | simpa using c5 | (simp at c5 ⊢; omega)
  clear c5
  have H' := md_ H
  clear H
  go_enter Tryz.func91, Tryz.ntmps91
  go_wp2_with (first | (go_at_call 86; (with_reducible refine (nat_trim.calls k (fun k_ => k_ < w.heap.size) _ _ l0 t381 _ ?side1 A3.out).mono ?_); (case side1 => exact Kd.V_mk HC0.out (Kd.F_below (Kd.C_F (Kd.heap_int .u32) HR0.out) (bq HB.out))); rintro e w6 ⟨v382, rfl, ho0, hb⟩; have HO383 := md_ (Kd.V_lower (Kd.V_mono (ok' := fun k_ => True) ho0 (fun k_ hk_ => trivial)) (below_size (bq HB.out))); replace HB := bb_ HB hb; (try clear hb); (try clear ho0)) | (go_at_call 86; (with_reducible refine (nat_trim.calls k (fun k_ => k_ < w.heap.size) _ _ l1 t384 _ ?side1 A4.out).mono ?_); (case side1 => exact Kd.V_mk HC1.out (Kd.F_below (Kd.C_F (Kd.heap_int .u32) HR1.out) (bq HB.out))); rintro e w7 ⟨v385, rfl, ho0, hb⟩; replace HO383 := vb_ HO383 hb; have HO386 := md_ (Kd.V_lower (Kd.V_mono (ok' := fun k_ => True) ho0 (fun k_ hk_ => trivial)) (below_size (bq HB.out))); replace HB := bb_ HB hb; (try clear hb); (try clear ho0); obtain ⟨Ao8, co8, eo8⟩ := Kd.V_slice HO383.out; subst eo8; obtain ⟨Ao9, co9, eo9⟩ := Kd.V_slice HO386.out; subst eo9))
  repeat (go_quiet (first | (go_at_call 86; (with_reducible refine (nat_trim.calls k (fun k_ => k_ < w.heap.size) _ _ l0 t381 _ ?side1 A3.out).mono ?_); (case side1 => exact Kd.V_mk HC0.out (Kd.F_below (Kd.C_F (Kd.heap_int .u32) HR0.out) (bq HB.out))); rintro e w6 ⟨v382, rfl, ho0, hb⟩; have HO383 := md_ (Kd.V_lower (Kd.V_mono (ok' := fun k_ => True) ho0 (fun k_ hk_ => trivial)) (below_size (bq HB.out))); replace HB := bb_ HB hb; (try clear hb); (try clear ho0)) | (go_at_call 86; (with_reducible refine (nat_trim.calls k (fun k_ => k_ < w.heap.size) _ _ l1 t384 _ ?side1 A4.out).mono ?_); (case side1 => exact Kd.V_mk HC1.out (Kd.F_below (Kd.C_F (Kd.heap_int .u32) HR1.out) (bq HB.out))); rintro e w7 ⟨v385, rfl, ho0, hb⟩; replace HO383 := vb_ HO383 hb; have HO386 := md_ (Kd.V_lower (Kd.V_mono (ok' := fun k_ => True) ho0 (fun k_ hk_ => trivial)) (below_size (bq HB.out))); replace HB := bb_ HB hb; (try clear hb); (try clear ho0); obtain ⟨Ao8, co8, eo8⟩ := Kd.V_slice HO383.out; subst eo8; obtain ⟨Ao9, co9, eo9⟩ := Kd.V_slice HO386.out; subst eo9)); try go_wp2_with (first | (go_at_call 86; (with_reducible refine (nat_trim.calls k (fun k_ => k_ < w.heap.size) _ _ l0 t381 _ ?side1 A3.out).mono ?_); (case side1 => exact Kd.V_mk HC0.out (Kd.F_below (Kd.C_F (Kd.heap_int .u32) HR0.out) (bq HB.out))); rintro e w6 ⟨v382, rfl, ho0, hb⟩; have HO383 := md_ (Kd.V_lower (Kd.V_mono (ok' := fun k_ => True) ho0 (fun k_ hk_ => trivial)) (below_size (bq HB.out))); replace HB := bb_ HB hb; (try clear hb); (try clear ho0)) | (go_at_call 86; (with_reducible refine (nat_trim.calls k (fun k_ => k_ < w.heap.size) _ _ l1 t384 _ ?side1 A4.out).mono ?_); (case side1 => exact Kd.V_mk HC1.out (Kd.F_below (Kd.C_F (Kd.heap_int .u32) HR1.out) (bq HB.out))); rintro e w7 ⟨v385, rfl, ho0, hb⟩; replace HO383 := vb_ HO383 hb; have HO386 := md_ (Kd.V_lower (Kd.V_mono (ok' := fun k_ => True) ho0 (fun k_ hk_ => trivial)) (below_size (bq HB.out))); replace HB := bb_ HB hb; (try clear hb); (try clear ho0); obtain ⟨Ao8, co8, eo8⟩ := Kd.V_slice HO383.out; subst eo8; obtain ⟨Ao9, co9, eo9⟩ := Kd.V_slice HO386.out; subst eo9)))
  go_loopg [5] k (fun kq v5 w' => ∃ (x5_1 : Int), v5 = .int .i64 x5_1 ∧ Aside0 (nat_Compare.l0 kq t381 t384 x5_1 = some r) ∧ Aside0 (kq ≤ k) ∧ Aside0 (Kd.V (Kd.int .u32) 119 w' w.heap.size (fun _ => True) (.slice Ao8 t381.length co8) t381) ∧ Aside0 (Kd.V (Kd.int .u32) 119 w' w.heap.size (fun _ => True) (.slice Ao9 t384.length co9) t384) ∧ Aside0 (Below w.heap.size w w'))
  case atStart => exact ⟨(wrap64 ((t381.length : Int) - 1)), aq, H', ⟨Nat.le_refl _⟩, ⟨vq HO383.out⟩, ⟨vq HO386.out⟩, ⟨bq HB.out⟩⟩
  case round =>
   clear H'
   (try clear c1); (try clear c2); (try clear p2); (try clear c5); (try clear c5b0); (try clear c5b1); (try clear c5b2); (try clear p6)
   obtain ⟨x5_1, rfl, HA, HK1, HO_0, HO_1, HB⟩ := hrel
   cases gk with
   | zero => exact absurd HA.out (by simp [nat_Compare.l0])
   | succ k1 =>
    have H := HA.out
    clear HA
    simp only [nat_Compare.l0] at H
    by_cases c10 : x5_1 ≥ 0
    ·rw [if_pos c10] at H
     have c10b0 : decide (0 ≤ x5_1) = true := decide_eq_true c10
     clear c10
     obtain ⟨c11b0, H⟩ := od_ H
     obtain ⟨c12b0, H⟩ := od_ H
     obtain ⟨c13b0, H⟩ := od_ H
     by_cases c14 : (rd t381 x5_1) < (rd t384 x5_1)
     ·rw [if_pos c14] at H
      have c14b0 := decide_eq_true c14
      clear c14
      obtain rfl := Option.some.inj H
      have p387 : 0 ≤ (x5_1 : Int) := oq
      have q387 : x5_1 < (t381.length : Int) := oq
      obtain ⟨ad387, e387, hx387_0⟩ := Kd.at_int (Kd.V_reads' HO_0.out).2.2 x5_1 p387 q387
      cases e387
      replace p387 := eq_true p387
      replace q387 := eq_true q387
      have p388 : 0 ≤ (x5_1 : Int) := oq
      have q388 : x5_1 < (t384.length : Int) := oq
      obtain ⟨ad388, e388, hx388_0⟩ := Kd.at_int (Kd.V_reads' HO_1.out).2.2 x5_1 p388 q388
      cases e388
      replace p388 := eq_true p388
      replace q388 := eq_true q388
      go_wp2
      repeat (go_quiet (fail); try go_wp2)
      go_ret
      exact ⟨eq_, bq HB.out⟩
     ·rw [if_neg c14] at H
      have c14b0 := decide_eq_false c14
      clear c14
      by_cases c15 : (rd t381 x5_1) > (rd t384 x5_1)
      ·rw [if_pos c15] at H
       have c15b0 : decide ((rd t384 x5_1) < (rd t381 x5_1)) = true := decide_eq_true c15
       clear c15
       obtain rfl := Option.some.inj H
       have p387 : 0 ≤ (x5_1 : Int) := oq
       have q387 : x5_1 < (t381.length : Int) := oq
       obtain ⟨ad387, e387, hx387_0⟩ := Kd.at_int (Kd.V_reads' HO_0.out).2.2 x5_1 p387 q387
       cases e387
       replace p387 := eq_true p387
       replace q387 := eq_true q387
       have p388 : 0 ≤ (x5_1 : Int) := oq
       have q388 : x5_1 < (t384.length : Int) := oq
       obtain ⟨ad388, e388, hx388_0⟩ := Kd.at_int (Kd.V_reads' HO_1.out).2.2 x5_1 p388 q388
       cases e388
       replace p388 := eq_true p388
       replace q388 := eq_true q388
       have p389 : 0 ≤ (x5_1 : Int) := oq
       have q389 : x5_1 < (t381.length : Int) := oq
       obtain ⟨ad389, e389, hx389_0⟩ := Kd.at_int (Kd.V_reads' HO_0.out).2.2 x5_1 p389 q389
       obtain rfl : ad387 = ad389 := (by injection e389)
       replace p389 := eq_true p389
       replace q389 := eq_true q389
       have p390 : 0 ≤ (x5_1 : Int) := oq
       have q390 : x5_1 < (t384.length : Int) := oq
       obtain ⟨ad390, e390, hx390_0⟩ := Kd.at_int (Kd.V_reads' HO_1.out).2.2 x5_1 p390 q390
       obtain rfl : ad388 = ad390 := (by injection e390)
       replace p390 := eq_true p390
       replace q390 := eq_true q390
       go_wp2
       repeat (go_quiet (fail); try go_wp2)
       go_ret
       exact ⟨eq_, bq HB.out⟩
      ·rw [if_neg c15] at H
       have c15b0 : decide ((rd t384 x5_1) < (rd t381 x5_1)) = false := decide_eq_false c15
       clear c15
       have H' := md_ H
       clear H
       have p387 : 0 ≤ (x5_1 : Int) := oq
       have q387 : x5_1 < (t381.length : Int) := oq
       obtain ⟨ad387, e387, hx387_0⟩ := Kd.at_int (Kd.V_reads' HO_0.out).2.2 x5_1 p387 q387
       cases e387
       replace p387 := eq_true p387
       replace q387 := eq_true q387
       have p388 : 0 ≤ (x5_1 : Int) := oq
       have q388 : x5_1 < (t384.length : Int) := oq
       obtain ⟨ad388, e388, hx388_0⟩ := Kd.at_int (Kd.V_reads' HO_1.out).2.2 x5_1 p388 q388
       cases e388
       replace p388 := eq_true p388
       replace q388 := eq_true q388
       have p389 : 0 ≤ (x5_1 : Int) := oq
       have q389 : x5_1 < (t381.length : Int) := oq
       obtain ⟨ad389, e389, hx389_0⟩ := Kd.at_int (Kd.V_reads' HO_0.out).2.2 x5_1 p389 q389
       obtain rfl : ad387 = ad389 := (by injection e389)
       replace p389 := eq_true p389
       replace q389 := eq_true q389
       have p390 : 0 ≤ (x5_1 : Int) := oq
       have q390 : x5_1 < (t384.length : Int) := oq
       obtain ⟨ad390, e390, hx390_0⟩ := Kd.at_int (Kd.V_reads' HO_1.out).2.2 x5_1 p390 q390
       obtain rfl : ad388 = ad390 := (by injection e390)
       replace p390 := eq_true p390
       replace q390 := eq_true q390
       go_wp2
       repeat (go_quiet (fail); try go_wp2)
       go_roundg k1
       case measure => have := HK1.out; omega
       case rel => exact ⟨(wrap64 (x5_1 - 1)), aq, H', ⟨by have := HK1.out; omega⟩, ⟨vq HO_0.out⟩, ⟨vq HO_1.out⟩, ⟨bq HB.out⟩⟩
    ·rw [if_neg c10] at H
     have c10b0 : decide (0 ≤ x5_1) = false := decide_eq_false c10
     clear c10
     obtain rfl := Option.some.inj H
     go_wp2
     repeat (go_quiet (fail); try go_wp2)
     go_ret
     exact ⟨eq_, bq HB.out⟩
 ·rw [if_neg c5] at H
  have c5b0 : ((t381.length : Int) == (t384.length : Int)) = false := beq_eq_false_iff_ne.mpr c5
  have c5b1 : ((t381.length : Int) != (t384.length : Int)) = true := bne_iff_ne.mpr c5
  have c5b2 : (t381.length == t384.length) = false := by first | simpa using c5 | (simp at c5 ⊢; omega)
  by_cases c16 : (t381.length : Int) < (t384.length : Int)
  ·rw [if_pos c16] at H
   have c16b0 := decide_eq_true c16
   have c16b1 : decide (t381.length < t384.length) = true := decide_eq_true (Int.ofNat_lt.mp c16)
   clear c16
   obtain rfl := Option.some.inj H
   go_enter Tryz.func91, Tryz.ntmps91
   go_wp2_with (first | (go_at_call 86; (with_reducible refine (nat_trim.calls k (fun k_ => k_ < w.heap.size) _ _ l0 t381 _ ?side1 A3.out).mono ?_); (case side1 => exact Kd.V_mk HC0.out (Kd.F_below (Kd.C_F (Kd.heap_int .u32) HR0.out) (bq HB.out))); rintro e w17 ⟨v382, rfl, ho0, hb⟩; have HO383 := md_ (Kd.V_lower (Kd.V_mono (ok' := fun k_ => True) ho0 (fun k_ hk_ => trivial)) (below_size (bq HB.out))); replace HB := bb_ HB hb; (try clear hb); (try clear ho0)) | (go_at_call 86; (with_reducible refine (nat_trim.calls k (fun k_ => k_ < w.heap.size) _ _ l1 t384 _ ?side1 A4.out).mono ?_); (case side1 => exact Kd.V_mk HC1.out (Kd.F_below (Kd.C_F (Kd.heap_int .u32) HR1.out) (bq HB.out))); rintro e w18 ⟨v385, rfl, ho0, hb⟩; replace HO383 := vb_ HO383 hb; have HO386 := md_ (Kd.V_lower (Kd.V_mono (ok' := fun k_ => True) ho0 (fun k_ hk_ => trivial)) (below_size (bq HB.out))); replace HB := bb_ HB hb; (try clear hb); (try clear ho0); obtain ⟨Ao19, co19, eo19⟩ := Kd.V_slice HO383.out; subst eo19; obtain ⟨Ao20, co20, eo20⟩ := Kd.V_slice HO386.out; subst eo20))
   repeat (go_quiet (first | (go_at_call 86; (with_reducible refine (nat_trim.calls k (fun k_ => k_ < w.heap.size) _ _ l0 t381 _ ?side1 A3.out).mono ?_); (case side1 => exact Kd.V_mk HC0.out (Kd.F_below (Kd.C_F (Kd.heap_int .u32) HR0.out) (bq HB.out))); rintro e w17 ⟨v382, rfl, ho0, hb⟩; have HO383 := md_ (Kd.V_lower (Kd.V_mono (ok' := fun k_ => True) ho0 (fun k_ hk_ => trivial)) (below_size (bq HB.out))); replace HB := bb_ HB hb; (try clear hb); (try clear ho0)) | (go_at_call 86; (with_reducible refine (nat_trim.calls k (fun k_ => k_ < w.heap.size) _ _ l1 t384 _ ?side1 A4.out).mono ?_); (case side1 => exact Kd.V_mk HC1.out (Kd.F_below (Kd.C_F (Kd.heap_int .u32) HR1.out) (bq HB.out))); rintro e w18 ⟨v385, rfl, ho0, hb⟩; replace HO383 := vb_ HO383 hb; have HO386 := md_ (Kd.V_lower (Kd.V_mono (ok' := fun k_ => True) ho0 (fun k_ hk_ => trivial)) (below_size (bq HB.out))); replace HB := bb_ HB hb; (try clear hb); (try clear ho0); obtain ⟨Ao19, co19, eo19⟩ := Kd.V_slice HO383.out; subst eo19; obtain ⟨Ao20, co20, eo20⟩ := Kd.V_slice HO386.out; subst eo20)); try go_wp2_with (first | (go_at_call 86; (with_reducible refine (nat_trim.calls k (fun k_ => k_ < w.heap.size) _ _ l0 t381 _ ?side1 A3.out).mono ?_); (case side1 => exact Kd.V_mk HC0.out (Kd.F_below (Kd.C_F (Kd.heap_int .u32) HR0.out) (bq HB.out))); rintro e w17 ⟨v382, rfl, ho0, hb⟩; have HO383 := md_ (Kd.V_lower (Kd.V_mono (ok' := fun k_ => True) ho0 (fun k_ hk_ => trivial)) (below_size (bq HB.out))); replace HB := bb_ HB hb; (try clear hb); (try clear ho0)) | (go_at_call 86; (with_reducible refine (nat_trim.calls k (fun k_ => k_ < w.heap.size) _ _ l1 t384 _ ?side1 A4.out).mono ?_); (case side1 => exact Kd.V_mk HC1.out (Kd.F_below (Kd.C_F (Kd.heap_int .u32) HR1.out) (bq HB.out))); rintro e w18 ⟨v385, rfl, ho0, hb⟩; replace HO383 := vb_ HO383 hb; have HO386 := md_ (Kd.V_lower (Kd.V_mono (ok' := fun k_ => True) ho0 (fun k_ hk_ => trivial)) (below_size (bq HB.out))); replace HB := bb_ HB hb; (try clear hb); (try clear ho0); obtain ⟨Ao19, co19, eo19⟩ := Kd.V_slice HO383.out; subst eo19; obtain ⟨Ao20, co20, eo20⟩ := Kd.V_slice HO386.out; subst eo20)))
   go_ret
   exact ⟨eq_, bq HB.out⟩
  ·rw [if_neg c16] at H
   have c16b0 := decide_eq_false c16
   have c16b1 : decide (t381.length < t384.length) = false := decide_eq_false (fun h => c16 (Int.ofNat_lt.mpr h))
   clear c16
   obtain rfl := Option.some.inj H
   go_enter Tryz.func91, Tryz.ntmps91
   go_wp2_with (first | (go_at_call 86; (with_reducible refine (nat_trim.calls k (fun k_ => k_ < w.heap.size) _ _ l0 t381 _ ?side1 A3.out).mono ?_); (case side1 => exact Kd.V_mk HC0.out (Kd.F_below (Kd.C_F (Kd.heap_int .u32) HR0.out) (bq HB.out))); rintro e w21 ⟨v382, rfl, ho0, hb⟩; have HO383 := md_ (Kd.V_lower (Kd.V_mono (ok' := fun k_ => True) ho0 (fun k_ hk_ => trivial)) (below_size (bq HB.out))); replace HB := bb_ HB hb; (try clear hb); (try clear ho0)) | (go_at_call 86; (with_reducible refine (nat_trim.calls k (fun k_ => k_ < w.heap.size) _ _ l1 t384 _ ?side1 A4.out).mono ?_); (case side1 => exact Kd.V_mk HC1.out (Kd.F_below (Kd.C_F (Kd.heap_int .u32) HR1.out) (bq HB.out))); rintro e w22 ⟨v385, rfl, ho0, hb⟩; replace HO383 := vb_ HO383 hb; have HO386 := md_ (Kd.V_lower (Kd.V_mono (ok' := fun k_ => True) ho0 (fun k_ hk_ => trivial)) (below_size (bq HB.out))); replace HB := bb_ HB hb; (try clear hb); (try clear ho0); obtain ⟨Ao23, co23, eo23⟩ := Kd.V_slice HO383.out; subst eo23; obtain ⟨Ao24, co24, eo24⟩ := Kd.V_slice HO386.out; subst eo24))
   repeat (go_quiet (first | (go_at_call 86; (with_reducible refine (nat_trim.calls k (fun k_ => k_ < w.heap.size) _ _ l0 t381 _ ?side1 A3.out).mono ?_); (case side1 => exact Kd.V_mk HC0.out (Kd.F_below (Kd.C_F (Kd.heap_int .u32) HR0.out) (bq HB.out))); rintro e w21 ⟨v382, rfl, ho0, hb⟩; have HO383 := md_ (Kd.V_lower (Kd.V_mono (ok' := fun k_ => True) ho0 (fun k_ hk_ => trivial)) (below_size (bq HB.out))); replace HB := bb_ HB hb; (try clear hb); (try clear ho0)) | (go_at_call 86; (with_reducible refine (nat_trim.calls k (fun k_ => k_ < w.heap.size) _ _ l1 t384 _ ?side1 A4.out).mono ?_); (case side1 => exact Kd.V_mk HC1.out (Kd.F_below (Kd.C_F (Kd.heap_int .u32) HR1.out) (bq HB.out))); rintro e w22 ⟨v385, rfl, ho0, hb⟩; replace HO383 := vb_ HO383 hb; have HO386 := md_ (Kd.V_lower (Kd.V_mono (ok' := fun k_ => True) ho0 (fun k_ hk_ => trivial)) (below_size (bq HB.out))); replace HB := bb_ HB hb; (try clear hb); (try clear ho0); obtain ⟨Ao23, co23, eo23⟩ := Kd.V_slice HO383.out; subst eo23; obtain ⟨Ao24, co24, eo24⟩ := Kd.V_slice HO386.out; subst eo24)); try go_wp2_with (first | (go_at_call 86; (with_reducible refine (nat_trim.calls k (fun k_ => k_ < w.heap.size) _ _ l0 t381 _ ?side1 A3.out).mono ?_); (case side1 => exact Kd.V_mk HC0.out (Kd.F_below (Kd.C_F (Kd.heap_int .u32) HR0.out) (bq HB.out))); rintro e w21 ⟨v382, rfl, ho0, hb⟩; have HO383 := md_ (Kd.V_lower (Kd.V_mono (ok' := fun k_ => True) ho0 (fun k_ hk_ => trivial)) (below_size (bq HB.out))); replace HB := bb_ HB hb; (try clear hb); (try clear ho0)) | (go_at_call 86; (with_reducible refine (nat_trim.calls k (fun k_ => k_ < w.heap.size) _ _ l1 t384 _ ?side1 A4.out).mono ?_); (case side1 => exact Kd.V_mk HC1.out (Kd.F_below (Kd.C_F (Kd.heap_int .u32) HR1.out) (bq HB.out))); rintro e w22 ⟨v385, rfl, ho0, hb⟩; replace HO383 := vb_ HO383 hb; have HO386 := md_ (Kd.V_lower (Kd.V_mono (ok' := fun k_ => True) ho0 (fun k_ hk_ => trivial)) (below_size (bq HB.out))); replace HB := bb_ HB hb; (try clear hb); (try clear ho0); obtain ⟨Ao23, co23, eo23⟩ := Kd.V_slice HO383.out; subst eo23; obtain ⟨Ao24, co24, eo24⟩ := Kd.V_slice HO386.out; subst eo24)))
   go_ret
   exact ⟨eq_, bq HB.out⟩
def bits_Sub32.f (a0 : Int) (a1 : Int) (a2 : Int) : Option (Int × Int) := some ((((a0 - a1) % 4294967296) - a2) % 4294967296, (Go.bits .or .u32 (Go.bits .and .u32 (Go.bits .xor .u32 IntKind.u32.max a0) a1) (Go.bits .and .u32 (Go.bits .xor .u32 IntKind.u32.max (Go.bits .xor .u32 a0 a1)) ((((a0 - a1) % 4294967296) - a2) % 4294967296))) / 2147483648)
set_option maxRecDepth 100000 in
theorem bits_Sub32.calls (a0 : Int) (a1 : Int) (a2 : Int) (r1 : Int) (r2 : Int) (w : World) (h : bits_Sub32.f a0 a1 a2 = some (r1, r2)) :
  Calls Tryz.prog 136 #[.int .u32 a0, .int .u32 a1, .int .u32 a2] w fun e w' => e = .returned (.tuple #[.int .u32 r1, .int .u32 r2]) ∧ Drawn0 w w' := by
 have H : (some ((((a0 - a1) % 4294967296) - a2) % 4294967296, (Go.bits .or .u32 (Go.bits .and .u32 (Go.bits .xor .u32 IntKind.u32.max a0) a1) (Go.bits .and .u32 (Go.bits .xor .u32 IntKind.u32.max (Go.bits .xor .u32 a0 a1)) ((((a0 - a1) % 4294967296) - a2) % 4294967296))) / 2147483648)) = some (r1, r2) := h
 clear h
 simp only [Option.some.injEq, Prod.mk.injEq] at H
 obtain ⟨rfl, rfl⟩ := H
 go_enter Tryz.func136, Tryz.ntmps136
 go_wp2
 go_ret2
 exact ⟨by first | rfl | (simp; done) | (simp [*]; done), by repeat (first | exact Drawn0.refl _ | apply Drawn0.step)⟩
end Go.Proofs.YtneepokiioefgaaGreatDoor.PNat
set_option maxHeartbeats 32000000
namespace Go.Proofs.YtneepokiioefgaaGreatDoor.PNat
open Go.RowKit YtneepokiioefgaaGreatDoorW.PrintWords YtneepokiioefgaaGreatDoorW.PrintLast YtneepokiioefgaaGreatDoorW.PrintMore
attribute [local go_sem] max2_int min2_int max_two min_two max_three min_three max_four min_four
def bits_Len32.f (a0 : Int) : Option (Int) := if 0 ≤ a0 ∧ a0 ≤ 4294967295 then some ((Lib.bitLen a0.toNat : Nat) : Int) else none
theorem bits_Len32.calls (a0 : Int) (r : Int) (w : World) (h : bits_Len32.f a0 = some r) :
  Calls Tryz.prog 87 #[.int .u32 a0] w fun e w' => e = .returned (.int .i64 r) ∧ Drawn0 w w' := by
 unfold bits_Len32.f at h
 by_cases hc : 0 ≤ a0 ∧ a0 ≤ 4294967295
 ·rw [if_pos hc] at h
  obtain rfl := Option.some.inj h
  exact (Tryz.bits_Len32 a0 w hc.1 hc.2).mono fun e w' ⟨h1, h2⟩ => ⟨h1, by subst h2; exact Drawn0.refl _⟩
 ·rw [if_neg hc] at h
  exact absurd h (by simp)
def nat_Bits.f (k : Nat) (l0 : List Int) : Option (Int) := (nat_trim.f k l0).bind fun t458 => (if (t458.length : Int) = 0 then (some 0) else (if 0 ≤ (wrap64 ((t458.length : Int) - 1)) then (if (wrap64 ((t458.length : Int) - 1)) < (t458.length : Int) then ((bits_Len32.f (rd t458 (wrap64 ((t458.length : Int) - 1)))).bind fun t462 => (some (wrap64 ((wrap64 ((wrap64 ((t458.length : Int) - 1)) * 32)) + t462)))) else (none)) else (none)))
set_option maxRecDepth 100000 in
theorem nat_Bits.calls (k : Nat) (A0 : Option Addr) (c0 : Nat) (l0 : List Int) (r : Int) (w : World) (hr0 : Kd.C (Kd.int .u32) w A0 l0.length l0) (hc0 : l0.length ≤ c0) (h : nat_Bits.f k l0 = some r) :
  Calls Tryz.prog 62 #[.slice A0 l0.length c0] w fun e w' => e = .returned (.int .i64 r) ∧ Below w.heap.size w w' := by
 have HR0 := md_ hr0
 have HC0 := md_ hc0
 clear hr0 hc0
 have HB := md_ (Below.refl w.heap.size w)
 have H : ((nat_trim.f k l0).bind fun t458 => (if (t458.length : Int) = 0 then (some 0) else (if 0 ≤ (wrap64 ((t458.length : Int) - 1)) then (if (wrap64 ((t458.length : Int) - 1)) < (t458.length : Int) then ((bits_Len32.f (rd t458 (wrap64 ((t458.length : Int) - 1)))).bind fun t462 => (some (wrap64 ((wrap64 ((wrap64 ((t458.length : Int) - 1)) * 32)) + t462)))) else (none)) else (none)))) = some r := h
 clear h
 replace H := Option.bind_eq_some_iff.mp H
 obtain ⟨t458, A20, H⟩ := H
 have A2 := md_ A20
 clear A20
 by_cases c3 : (t458.length : Int) = 0
 ·rw [if_pos c3] at H
  have c3b0 : ((t458.length : Int) == 0) = true := beq_iff_eq.mpr c3
  have c3b1 : ((t458.length : Int) != 0) = false := bne_eq_false_iff_eq.mpr c3
  clear c3
  obtain rfl := Option.some.inj H
  go_enter Tryz.func62, Tryz.ntmps62
  go_wp2_with (first | ((with_reducible refine gate_callee (f := 86) rfl ?_); refine goesL_ (some 4) rfl rfl Tryz.func86 (by kernel_rfl) rfl #[.slice A0 l0.length c0] rfl gq ?_; (with_reducible refine (nat_trim.calls k (fun k_ => k_ < w.heap.size) _ _ l0 t458 _ ?side1 A2.out).mono ?_); (case side1 => exact Kd.V_mk HC0.out (Kd.F_below (Kd.C_F (Kd.heap_int .u32) HR0.out) (bq HB.out))); rintro e w4 ⟨v459, rfl, ho0, hb⟩; refine ⟨_, rfl, ?_⟩; have HO460 := md_ (Kd.V_lower (Kd.V_mono (ok' := fun k_ => True) ho0 (fun k_ hk_ => trivial)) (below_size (bq HB.out))); replace HB := bb_ HB hb; (try clear hb); (try clear ho0); obtain ⟨Ao5, co5, eo5⟩ := Kd.V_slice HO460.out; subst eo5))
  go_ret
  exact ⟨eq_, bq HB.out⟩
 ·rw [if_neg c3] at H
  have c3b0 : ((t458.length : Int) == 0) = false := beq_eq_false_iff_ne.mpr c3
  have c3b1 : ((t458.length : Int) != 0) = true := bne_iff_ne.mpr c3
  have c3b2 : ¬ (t458 = []) := fun h_ => c3 (by rw [h_]; rfl)
  obtain ⟨ji6, hji6⟩ : ∃ j_ : Int, (wrap64 ((t458.length : Int) - 1)) = j_ := ⟨_, rfl⟩
  first | rw [hji6] at H | simp only [hji6] at H
  (try rw [hji6] at A2)
  have hji6w : (IntKind.i64.wrap ((t458.length : Int) - 1)) = ji6 := (i64_w _).trans hji6
  obtain ⟨c7b0, H⟩ := od_ H
  obtain ⟨c8b0, H⟩ := od_ H
  replace H := Option.bind_eq_some_iff.mp H
  obtain ⟨t462, A90, H⟩ := H
  have A9 := md_ A90
  clear A90
  obtain rfl := Option.some.inj H
  go_enter Tryz.func62, Tryz.ntmps62
  go_wp2_with (first | ((with_reducible refine gate_callee (f := 86) rfl ?_); refine goesL_ (some 4) rfl rfl Tryz.func86 (by kernel_rfl) rfl #[.slice A0 l0.length c0] rfl gq ?_; (with_reducible refine (nat_trim.calls k (fun k_ => k_ < w.heap.size) _ _ l0 t458 _ ?side1 A2.out).mono ?_); (case side1 => exact Kd.V_mk HC0.out (Kd.F_below (Kd.C_F (Kd.heap_int .u32) HR0.out) (bq HB.out))); rintro e w10 ⟨v459, rfl, ho0, hb⟩; refine ⟨_, rfl, ?_⟩; have HO460 := md_ (Kd.V_lower (Kd.V_mono (ok' := fun k_ => True) ho0 (fun k_ hk_ => trivial)) (below_size (bq HB.out))); replace HB := bb_ HB hb; (try clear hb); (try clear ho0); obtain ⟨Ao11, co11, eo11⟩ := Kd.V_slice HO460.out; subst eo11; have p461 : 0 ≤ ((ji6) : Int) := oq; have q461 : (ji6) < (t458.length : Int) := oq; obtain ⟨ad461, e461, hx461_0⟩ := Kd.at_int (Kd.V_reads' HO460.out).2.2 (ji6) p461 q461; cases e461; replace p461 := eq_true p461; replace q461 := eq_true q461) | ((with_reducible refine gate_callee (f := 87) rfl ?_); refine goesL_ (some 18) rfl rfl Tryz.func87 (by kernel_rfl) rfl #[.int .u32 (rd t458 (ji6))] rfl (by (try simp only [List.map_toArray, List.map_cons, List.map_nil]); first | done | (simp only [hji6]; rfl) | rfl | (simp only [List.length_drop, List.length_take]; rfl)) ?_; (with_reducible refine (bits_Len32.calls (rd t458 (ji6)) t462 _ A9.out).mono ?_); rintro e w' ⟨rfl, ⟨nd, rfl⟩⟩; refine ⟨_, rfl, ?_⟩))
  go_ret
  exact ⟨by first | rfl | (simp [errW_none, errW_some] <;> rfl) | (simp only [← hji6]; first | rfl | (simp [errW_none, errW_some] <;> rfl)) | (simp [*, errW_none, errW_some] <;> rfl), bq HB.out⟩
def nat_take.l0 : Nat → List Int → List Int → Int → Int → Int → List Int → Int → Int → Option (Bool × List Int)
 | 0, _, _, _, _, _, _, _, _ => none
 | k + 1, x0, x1, x2, x7, x8, x11, x12, x13 => if x13 < x12 then (if 0 ≤ x13 then (if x13 < (x11.length : Int) then (if x13 < (x0.length : Int) then ((bits_Sub32.f (rd x0 x13) ((IntKind.u64.wrap (x7 + (IntKind.u64.wrap (x2 * (IntKind.u64.wrap (rd x11 x13)))))) % 4294967296) x8).bind fun bt518 => (nat_take.l0 k (x0.set (x13 : Int).toNat bt518.1) x1 x2 ((IntKind.u64.wrap (x7 + (IntKind.u64.wrap (x2 * (IntKind.u64.wrap (rd x11 x13)))))) / 4294967296) bt518.2 x11 x12 (wrap64 (x13 + 1)))) else (none)) else (none)) else (none)) else (if 0 ≤ (x1.length : Int) then (if (x1.length : Int) < (x0.length : Int) then ((bits_Sub32.f (rd x0 (x1.length : Int)) ((x7) % 4294967296) x8).bind fun bt522 => (some ((bt522.2 != 0), (x0.set ((x1.length : Int) : Int).toNat bt522.1)))) else (none)) else (none))
def nat_take.f (k : Nat) (l0 : List Int) (l1 : List Int) (a2 : Int) : Option (Bool × List Int) := nat_take.l0 k l0 l1 a2 0 0 l1 (l1.length : Int) 0
def nat_give.l0 : Nat → List Int → List Int → Int → List Int → Int → Int → Option (List Int)
 | 0, _, _, _, _, _, _ => none
 | k + 1, x0, x1, x4, x7, x8, x9 => if x9 < x8 then (if 0 ≤ x9 then (if x9 < (x7.length : Int) then (if x9 < (x0.length : Int) then ((bits_Add32.f (rd x0 x9) (rd x7 x9) x4).bind fun bt527 => (nat_give.l0 k (x0.set (x9 : Int).toNat bt527.1) x1 bt527.2 x7 x8 (wrap64 (x9 + 1)))) else (none)) else (none)) else (none)) else (if 0 ≤ (x1.length : Int) then (if (x1.length : Int) < (x0.length : Int) then (some (x0.set ((x1.length : Int) : Int).toNat (((rd x0 (x1.length : Int)) + x4) % 4294967296))) else (none)) else (none))
def nat_give.f (k : Nat) (l0 : List Int) (l1 : List Int) : Option (List Int) := nat_give.l0 k l0 l1 0 l1 (l1.length : Int) 0
def SR (g j cU : Nat) (L T : List Int) (w : World) (base : Nat) (ok : Nat → Prop) (v : Value) (xs : List Int) : Prop :=
 ∃ cap, v = .slice (some ⟨g, j, none⟩) xs.length cap ∧ xs.length ≤ cap ∧ L.length = j ∧ 0 < xs.length ∧ Kd.R (Kd.int .u32) 119 w base ok (.slice (some ⟨g, 0, none⟩) (L ++ xs ++ T).length cU) (L ++ xs ++ T)
section
variable {g j cU base : Nat} {L T : List Int} {w w1 : World} {ok ok' : Nat → Prop} {v : Value} {xs : List Int}
theorem S_slice (h : SR g j cU L T w base ok v xs) : ∃ c, v = .slice (some ⟨g, j, none⟩) xs.length c := by
 obtain ⟨c, e, _⟩ := h
 exact ⟨c, e⟩
theorem S_map (h : SR g j cU L T w base ok v xs) (hm : Kd.R (Kd.int .u32) 119 w base ok (.slice (some ⟨g, 0, none⟩) (L ++ xs ++ T).length cU) (L ++ xs ++ T) → Kd.R (Kd.int .u32) 119 w1 base ok' (.slice (some ⟨g, 0, none⟩) (L ++ xs ++ T).length cU) (L ++ xs ++ T)) : SR g j cU L T w1 base ok' v xs := by
 obtain ⟨c, e, hc, hj, h0, hR⟩ := h
 exact ⟨c, e, hc, hj, h0, hm hR⟩
theorem S_alloc (h : SR g j cU L T w base ok v xs) (o : Obj) : SR g j cU L T (w.alloc o) base ok v xs := S_map h fun hR => Kd.R_alloc hR o
theorem S_drew (h : SR g j cU L T w base ok v xs) : SR g j cU L T w.drew base ok v xs := S_map h fun hR => Kd.R_drew hR
theorem S_drewN (h : SR g j cU L T w base ok v xs) (m : Nat) : SR g j cU L T (w.drewN m) base ok v xs := S_map h fun hR => Kd.R_drewN hR m
theorem S_mono (h : SR g j cU L T w base ok v xs) (hok : ∀ k, ok k → ok' k) : SR g j cU L T w base ok' v xs := S_map h fun hR => Kd.R_mono hR hok
theorem SR.one (h : SR g j cU L T w base ok v xs) : ∀ k, v.ownBlock = some k → ok k := by
 obtain ⟨c, e, hc, hj, h0, hR⟩ := h
 intro k hk
 refine hR.1 k ?_
 rw [e] at hk
 simpa [Value.ownBlock] using hk
theorem S_form (h : SR g j cU L T w base ok v xs) : base ≤ g ∧ g < w.heap.size ∧ ∃ cells, w.heap[g]? = some (.cells cells 119 (0, 0)) := by
 obtain ⟨c, e, hc, hj, h0, hR⟩ := h
 obtain ⟨g', cap, e2, a, b, cl⟩ := Kd.R_form hR (by simp only [List.length_append]; omega)
 injection e2 with e3
 injection e3 with e3
 injection e3 with e4
 subst e4
 exact ⟨a, b, cl⟩
theorem sr_rd (h : L.length = j) (i : Int) (h0 : 0 ≤ i) (hi : i < xs.length) : rdOf 0 (L ++ xs ++ T) ((j : Int) + i) = rd xs i := by
 obtain ⟨n, rfl⟩ := Int.eq_ofNat_of_zero_le h0
 show (L ++ xs ++ T).getD ((j : Int) + (n : Int)).toNat 0 = xs.getD ((n : Int)).toNat 0
 rw [show ((j : Int) + (n : Int)).toNat = j + n by omega, Int.toNat_natCast, List.getD_eq_getElem?_getD, List.getD_eq_getElem?_getD, List.append_assoc, List.getElem?_append_right (by omega), h, Nat.add_sub_cancel_left, List.getElem?_append_left (by omega)]
theorem S_celln (h : SR g j cU L T w base ok v xs) (i : Int) (h0 : 0 ≤ i) (hi : i < xs.length) : w.cell? ⟨g, j + i.toNat, none⟩ = some (.int .u32 (rd xs i)) ∧ w.frozen? ⟨g, j + i.toNat, none⟩ = false := by
 obtain ⟨c, e, hc, hj, h1, hR⟩ := h
 have h2 := Kd.R_celln (h1 := fun _ => rfl) (enc := Value.int .u32) 0 hR ((j : Int) + i) (by omega) (by simp only [List.length_append]; omega)
 rw [sr_rd hj i h0 hi, show ((j : Int) + i).toNat = j + i.toNat by omega] at h2
 exact h2
theorem S_reads {A : Option Addr} {n c : Nat} (h : SR g j cU L T w base ok (.slice A n c) xs) : n = xs.length ∧ n ≤ c ∧ Kd.C (Kd.int .u32) w A xs.length xs := by
 obtain ⟨c', e, hc, hj, h1, hR⟩ := h
 injection e with e1 e2 e3
 subst e1 e2 e3
 refine ⟨rfl, hc, ?_⟩
 have hR2 := (Kd.R_reads' hR).2.2
 refine Kd.C_of_reads (enc := Value.int .u32) (d := (0 : Int)) (h1 := fun _ => rfl) ⟨rfl, ?_, fun hn => ⟨⟨g, j, none⟩, rfl, fun q hq => ?_⟩⟩
 ·have := hR2.2.1
  simp only [List.length_append] at this
  omega
 ·have h2 := (S_celln (v := .slice (some ⟨g, j, none⟩) xs.length c) ⟨c, rfl, hc, hj, h1, hR⟩ (q : Int) (by omega) (by omega)).1
  rw [Int.toNat_natCast] at h2
  rw [Addr.add_lit, h2]
  show some (Value.int .u32 (xs.getD ((q : Int)).toNat 0)) = _
  rw [Int.toNat_natCast]
theorem S_putg (h : SR g j cU L T w base ok v xs) (i : Int) (x : Int) (h0 : 0 ≤ i) (hi : i < xs.length) : SR g j cU L T (w.setCell ⟨g, j + i.toNat, none⟩ (.int .u32 x)) base ok v (xs.set i.toNat x) ∧ w.grownBy (w.setCell ⟨g, j + i.toNat, none⟩ (.int .u32 x)) (some g) := by
 obtain ⟨c, e, hc, hj, h1, hR⟩ := h
 have h2 := Kd.R_putg (h1 := fun _ => rfl) (enc := Value.int .u32) hR ((j : Int) + i) x
 have e2 : (L ++ xs ++ T).set ((j : Int) + i).toNat x = L ++ xs.set i.toNat x ++ T := by
  rw [show ((j : Int) + i).toNat = L.length + i.toNat by omega, List.append_assoc, List.set_append_right _ _ (by omega), Nat.add_sub_cancel_left, List.set_append_left _ _ (by omega), List.append_assoc]
 rw [e2, show ((j : Int) + i).toNat = j + i.toNat by omega] at h2
 refine ⟨⟨c, by rw [List.length_set]; exact e, by rw [List.length_set]; exact hc, hj, by rw [List.length_set]; exact h1, ?_⟩, h2.2⟩
 rw [show (L ++ xs.set i.toNat x ++ T).length = (L ++ xs ++ T).length by simp]
 exact h2.1
end
set_option maxRecDepth 100000 in
theorem take_sub (k : Nat) (P0_ : Nat → Prop) (g j cU : Nat) (L T : List Int) (u9000_ : Value) (l0 : List Int) (A1 : Option Addr) (c1 : Nat) (l1 : List Int) (a2 : Int) (r1 : Bool) (r2 : List Int) (w0 w : World) (hB : Below w0.heap.size w0 w) (ho0 : SR g j cU L T w w0.heap.size P0_ u9000_ l0) (hr1 : ∀ W_, Kept w W_ (fun k_ => P0_ k_) → Kd.C (Kd.int .u32) W_ A1 l1.length l1) (hc1 : l1.length ≤ c1) (h : nat_take.f k l0 l1 a2 = some (r1, r2)) :
  Calls Tryz.prog 122 #[u9000_, .slice A1 l1.length c1, .int .u64 a2] w fun e w' => e = .returned (.bool r1) ∧ SR g j cU L T w' w0.heap.size (fun k_ => (P0_ k_ ∨ w.heap.size ≤ k_)) u9000_ r2 ∧ Below w0.heap.size w0 w' ∧ Kept w w' (fun k_ => P0_ k_) := by
 have HO0 := md_ (show SR g j cU L T w w0.heap.size (fun k_ => (P0_ k_ ∨ w.heap.size ≤ k_)) u9000_ l0 from S_mono ho0 (fun k_ hk => (.inl hk)))
 have HR1 := md_ hr1
 have HC1 := md_ hc1
 clear hr1 hc1
 have HK := md_ (Kept.refl w (fun k_ => P0_ k_))
 have HW0 := md_ hB.size
 have HB := md_ hB
 clear hB
 have H : (nat_take.l0 k l0 l1 a2 0 0 l1 (l1.length : Int) 0) = some (r1, r2) := h
 clear h
 have H' := md_ H
 clear H
 go_enter Tryz.func122, Tryz.ntmps122
 go_wp2
 go_loopg [7, 8, 13] k (fun kq v7 v8 v13 w' => ∃ (x0_1 : List Int) (x7_1 : Int) (x8_1 : Int) (x13_1 : Int), v7 = .int .u64 x7_1 ∧ v8 = .int .u32 x8_1 ∧ v13 = .int .i64 x13_1 ∧ Aside0 (nat_take.l0 kq x0_1 l1 a2 x7_1 x8_1 l1 (l1.length : Int) x13_1 = some (r1, r2)) ∧ Aside0 (kq ≤ k) ∧ Aside0 (SR g j cU L T w' w0.heap.size (fun k_ => (P0_ k_ ∨ w.heap.size ≤ k_)) u9000_ x0_1) ∧ Aside0 (Kept w w' (fun k_ => P0_ k_)) ∧ Aside0 (Below w0.heap.size w0 w'))
 case atStart => exact ⟨(l0), (0), (0), (0), aq, aq, aq, H', ⟨Nat.le_refl _⟩, ⟨by (with_reducible repeat (first | apply S_alloc | apply S_drewN | apply S_drew)); exact HO0.out⟩, ⟨by repeat (first | (with_reducible first | exact HK.out | apply Kept.alloc | apply Kept.drewN | apply Kept.drew) | exact HK.out)⟩, ⟨bq HB.out⟩⟩
 case round =>
  clear H'
  (try clear c1); (try clear p2)
  obtain ⟨x0_1, x7_1, x8_1, x13_1, rfl, rfl, rfl, HA, HK1, HO_0, HK, HB⟩ := hrel
  cases gk with
  | zero => exact absurd HA.out (by simp [nat_take.l0])
  | succ k1 =>
   have H := HA.out
   clear HA
   simp only [nat_take.l0] at H
   by_cases c4 : x13_1 < (l1.length : Int)
   ·rw [if_pos c4] at H
    have c4b0 := decide_eq_true c4
    clear c4
    obtain ⟨c5b0, H⟩ := od_ H
    obtain ⟨c6b0, H⟩ := od_ H
    obtain ⟨c7b0, H⟩ := od_ H
    replace H := Option.bind_eq_some_iff.mp H
    obtain ⟨⟨t518, t519⟩, A80, H⟩ := H
    dsimp only at H
    have A8 := md_ A80
    clear A80
    obtain ⟨y520, hy520⟩ : ∃ y_ : List Int, y_ = (x0_1.set (x13_1 : Int).toNat t518) := ⟨_, rfl⟩
    replace H : (nat_take.l0 k1 y520 l1 a2 ((IntKind.u64.wrap (x7_1 + (IntKind.u64.wrap (a2 * (IntKind.u64.wrap (rd l1 x13_1)))))) / 4294967296) t519 l1 (l1.length : Int) (wrap64 (x13_1 + 1))) = some (r1, r2) := by first | (rw [hy520]; with_reducible exact H) | (have H2_ := (Option.bind_some _ _).symm.trans H; rw [hy520]; with_reducible exact H2_) | (have H2_ := (Option.bind_some _ _).symm.trans H; with_reducible exact H2_) | with_reducible exact H | (rw [hy520]; exact H) | exact H
    have Ny520 := md_ hy520
    clear hy520
    have H' := md_ H
    clear H
    have p516 : 0 ≤ (x13_1 : Int) := oq
    have q516 : x13_1 < (l1.length : Int) := oq
    obtain ⟨ad516, e516, hx516_0⟩ := Kd.at_int (Kd.C_kept_now HR1.out HK.out) x13_1 p516 q516
    cases e516
    replace p516 := eq_true p516
    replace q516 := eq_true q516
    obtain ⟨co10, eo10⟩ := S_slice HO_0.out
    subst eo10
    have p517 : 0 ≤ (x13_1 : Int) := oq
    have q517 : x13_1 < (x0_1.length : Int) := oq
    obtain ⟨ad517, e517, hx517_0⟩ := Kd.at_int (S_reads HO_0.out).2.2 x13_1 p517 q517
    cases e517
    (try simp only [Addr.add_lit] at hx517_0)
    replace p517 := eq_true p517
    replace q517 := eq_true q517
    go_wp2_with (first | ((with_reducible refine gate_callee (f := 136) rfl ?_); refine goesL_ (some 34) rfl rfl Tryz.func136 (by kernel_rfl) rfl #[.int .u32 (rd x0_1 x13_1), .int .u32 ((IntKind.u64.wrap (x7_1 + (IntKind.u64.wrap (a2 * (IntKind.u64.wrap (rd l1 x13_1)))))) % 4294967296), .int .u32 x8_1] rfl gq ?_; (with_reducible refine (bits_Sub32.calls (rd x0_1 x13_1) ((IntKind.u64.wrap (x7_1 + (IntKind.u64.wrap (a2 * (IntKind.u64.wrap (rd l1 x13_1)))))) % 4294967296) x8_1 t518 t519 _ A8.out).mono ?_); rintro e w' ⟨rfl, ⟨nd, rfl⟩⟩; refine ⟨_, rfl, ?_⟩; (try (rw [drewN_self wr]; generalize hq_ : World.drewN wr _ = wr; have n0_ : Aside0 (SR g j cU L T wr w0.heap.size (fun k_ => (P0_ k_ ∨ w.heap.size ≤ k_)) (.slice (some ⟨g, j, none⟩) x0_1.length co10) x0_1) := ⟨by rw [← hq_]; exact (by (with_reducible repeat (first | apply S_alloc | apply S_drewN | apply S_drew)); exact HO_0.out)⟩; have n1_ : Aside0 (Kept w wr (fun k_ => P0_ k_)) := ⟨by rw [← hq_]; exact (by repeat (first | (with_reducible first | exact HK.out | apply Kept.alloc | apply Kept.drewN | apply Kept.drew) | exact HK.out))⟩; have n2_ : Aside0 (Below w0.heap.size w0 wr) := ⟨by rw [← hq_]; exact (bq HB.out)⟩; clear HO_0 HK HB hq_; have HO_0 := n0_; have HK := n1_; have HB := n2_; clear n0_ n1_ n2_)); have p9 : 0 ≤ (x13_1 : Int) := oq; have q9 : (x13_1 : Int) < ((x0_1.length : Int) : Int) := oq; obtain ⟨gb9, gl9, cl9, HG9⟩ := S_form HO_0.out; have GB9 := md_ gb9; have GG9 := md_ HG9; clear gb9 gl9 HG9; have HMgo9 := md_ (show (P0_ g ∨ w.heap.size ≤ g) from (SR.one HO_0.out _ rfl)); obtain ⟨hx9_0, hf9_0⟩ := S_celln HO_0.out (x13_1 : Int) p9 q9; (try simp only [Int.toNat_natCast] at hx9_0); (try simp only [Int.toNat_natCast] at hf9_0); replace p9 := eq_true p9; replace q9 := eq_true q9; obtain ⟨hy11_, hz11_⟩ := S_celln HO_0.out (x13_1 : Int) oq oq; have HP11 := S_putg HO_0.out (x13_1 : Int) t518 oq oq) | ((with_reducible refine gate_store (t := 119) (p := 37) rfl ?_); refine store_event (t := 119) (p := 37) (v := ?vo_w12) (w1 := (wr.setCell ⟨g, j + (x13_1 : Int).toNat, none⟩ (.int .u32 t518))) ?hg ?ho ?hn ?hr ?_; (case ho => rfl); (case hg => rfl); (case hn => rfl); (case hr => first | (go_simp; done) | (go_simp; rfl) | (obtain ⟨hx_, hf_⟩ := S_celln HO_0.out (x13_1 : Int) oq oq; (try simp only [Int.toNat_natCast] at hx_); (try simp only [Int.toNat_natCast] at hf_); first | (go_simp; done) | (go_simp; rfl))); intro w12 hw; have hg : wr.grownBy w12 (some g) := (by rw [hw]; exact HP11.2); have hp_ : SR g j cU L T w12 w0.heap.size (fun k_ => (P0_ k_ ∨ w.heap.size ≤ k_)) (.slice (some ⟨g, j, none⟩) x0_1.length co10) y520 := (by rw [hw, Ny520.out]; exact HP11.1); clear HP11; have n0_ := md_ (hp_); have n1_ := md_ ((by rw [hw]; exact below_set (HB.out) GB9.out : Below w0.heap.size w0 w12)); have n2_ := md_ (Kept.of_grown (S := (fun k_ => P0_ k_)) hg (by repeat (first | (with_reducible first | exact HK.out | apply Kept.alloc | apply Kept.drewN | apply Kept.drew) | exact HK.out)) (fun k_ e_ => (SR.one HO_0.out k_ e_))); clear HO_0; clear HB; clear HK; have HO_0 := n0_; have HB := n1_; have HK := n2_; clear n0_ n1_ n2_; clear hg hw hp_))
    go_roundg k1
    case measure => have := HK1.out; omega
    case rel => exact ⟨(y520), ((IntKind.u64.wrap (x7_1 + (IntKind.u64.wrap (a2 * (IntKind.u64.wrap (rd l1 x13_1)))))) / 4294967296), (t519), (wrap64 (x13_1 + 1)), aq, aq, aq, H', ⟨by have := HK1.out; omega⟩, ⟨by (with_reducible repeat (first | apply S_alloc | apply S_drewN | apply S_drew)); exact HO_0.out⟩, ⟨by repeat (first | (with_reducible first | exact HK.out | apply Kept.alloc | apply Kept.drewN | apply Kept.drew) | exact HK.out)⟩, ⟨bq HB.out⟩⟩
   ·rw [if_neg c4] at H
    have c4b0 := decide_eq_false c4
    clear c4
    obtain ⟨c13, H⟩ := oi_ H
    have c13b0 : decide (0 ≤ (l1.length : Int)) = true := decide_eq_true c13
    have c13b1 : decide (0 ≤ l1.length) = true := decide_eq_true (by omega)
    clear c13
    obtain ⟨c14, H⟩ := oi_ H
    have c14b0 : decide ((l1.length : Int) < (x0_1.length : Int)) = true := decide_eq_true c14
    have c14b1 : decide (l1.length < x0_1.length) = true := decide_eq_true (Int.ofNat_lt.mp c14)
    clear c14
    replace H := Option.bind_eq_some_iff.mp H
    obtain ⟨⟨t522, t523⟩, A150, H⟩ := H
    dsimp only at H
    have A15 := md_ A150
    clear A150
    obtain ⟨y524, hy524⟩ : ∃ y_ : List Int, y_ = (x0_1.set ((l1.length : Int) : Int).toNat t522) := ⟨_, rfl⟩
    replace H : (some ((t523 != 0), y524)) = some (r1, r2) := by first | (rw [hy524]; with_reducible exact H) | (have H2_ := (Option.bind_some _ _).symm.trans H; rw [hy524]; with_reducible exact H2_) | (have H2_ := (Option.bind_some _ _).symm.trans H; with_reducible exact H2_) | with_reducible exact H | (rw [hy524]; exact H) | exact H
    have Ny524 := md_ hy524
    clear hy524
    simp only [Option.some.injEq, Prod.mk.injEq] at H
    obtain ⟨rfl, rfl⟩ := H
    obtain ⟨co17, eo17⟩ := S_slice HO_0.out
    subst eo17
    have p521 : 0 ≤ ((l1.length : Int) : Int) := oq
    have q521 : (l1.length : Int) < (x0_1.length : Int) := oq
    obtain ⟨ad521, e521, hx521_0⟩ := Kd.at_int (S_reads HO_0.out).2.2 (l1.length : Int) p521 q521
    cases e521
    (try simp only [Addr.add_lit] at hx521_0)
    (try simp only [Go.IntWalk.toNatUp] at hx521_0)
    replace p521 := eq_true p521
    replace q521 := eq_true q521
    go_wp2_with (first | ((with_reducible refine gate_callee (f := 136) rfl ?_); refine goesL_ (some 53) rfl rfl Tryz.func136 (by kernel_rfl) rfl #[.int .u32 (rd x0_1 (l1.length : Int)), .int .u32 ((x7_1) % 4294967296), .int .u32 x8_1] rfl gq ?_; (with_reducible refine (bits_Sub32.calls (rd x0_1 (l1.length : Int)) ((x7_1) % 4294967296) x8_1 t522 t523 _ A15.out).mono ?_); rintro e w' ⟨rfl, ⟨nd, rfl⟩⟩; refine ⟨_, rfl, ?_⟩; (try (rw [drewN_self wr]; generalize hq_ : World.drewN wr _ = wr; have n0_ : Aside0 (SR g j cU L T wr w0.heap.size (fun k_ => (P0_ k_ ∨ w.heap.size ≤ k_)) (.slice (some ⟨g, j, none⟩) x0_1.length co17) x0_1) := ⟨by rw [← hq_]; exact (by (with_reducible repeat (first | apply S_alloc | apply S_drewN | apply S_drew)); exact HO_0.out)⟩; have n1_ : Aside0 (Kept w wr (fun k_ => P0_ k_)) := ⟨by rw [← hq_]; exact (by repeat (first | (with_reducible first | exact HK.out | apply Kept.alloc | apply Kept.drewN | apply Kept.drew) | exact HK.out))⟩; have n2_ : Aside0 (Below w0.heap.size w0 wr) := ⟨by rw [← hq_]; exact (bq HB.out)⟩; clear HO_0 HK HB hq_; have HO_0 := n0_; have HK := n1_; have HB := n2_; clear n0_ n1_ n2_)); have p16 : 0 ≤ ((l1.length : Int) : Int) := oq; have q16 : ((l1.length : Int) : Int) < ((x0_1.length : Int) : Int) := oq; obtain ⟨gb16, gl16, cl16, HG16⟩ := S_form HO_0.out; have GB16 := md_ gb16; have GG16 := md_ HG16; clear gb16 gl16 HG16; have HMgo16 := md_ (show (P0_ g ∨ w.heap.size ≤ g) from (SR.one HO_0.out _ rfl)); obtain ⟨hx16_0, hf16_0⟩ := S_celln HO_0.out ((l1.length : Int) : Int) p16 q16; (try simp only [Int.toNat_natCast] at hx16_0); (try simp only [Int.toNat_natCast] at hf16_0); replace p16 := eq_true p16; replace q16 := eq_true q16; obtain ⟨hy18_, hz18_⟩ := S_celln HO_0.out ((l1.length : Int) : Int) oq oq; (try simp only [Go.IntWalk.toNatUp] at hy18_ hz18_); have HP18 := S_putg HO_0.out ((l1.length : Int) : Int) t522 oq oq) | ((with_reducible refine gate_store (t := 119) (p := 56) rfl ?_); refine store_event (t := 119) (p := 56) (v := ?vo_w19) (w1 := (wr.setCell ⟨g, j + ((l1.length : Int) : Int).toNat, none⟩ (.int .u32 t522))) ?hg ?ho ?hn ?hr ?_; (case ho => rfl); (case hg => rfl); (case hn => rfl); (case hr => first | (go_simp; done) | (go_simp; rfl) | (obtain ⟨hx_, hf_⟩ := S_celln HO_0.out ((l1.length : Int) : Int) oq oq; (try simp only [Int.toNat_natCast] at hx_); (try simp only [Int.toNat_natCast] at hf_); first | (go_simp; done) | (go_simp; rfl))); intro w19 hw; have hg : wr.grownBy w19 (some g) := (by rw [hw]; exact HP18.2); have hp_ : SR g j cU L T w19 w0.heap.size (fun k_ => (P0_ k_ ∨ w.heap.size ≤ k_)) (.slice (some ⟨g, j, none⟩) x0_1.length co17) y524 := (by rw [hw, Ny524.out]; exact HP18.1); clear HP18; have n0_ := md_ (hp_); have n1_ := md_ ((by rw [hw]; exact below_set (HB.out) GB16.out : Below w0.heap.size w0 w19)); have n2_ := md_ (Kept.of_grown (S := (fun k_ => P0_ k_)) hg (by repeat (first | (with_reducible first | exact HK.out | apply Kept.alloc | apply Kept.drewN | apply Kept.drew) | exact HK.out)) (fun k_ e_ => (SR.one HO_0.out k_ e_))); clear HO_0; clear HB; clear HK; have HO_0 := n0_; have HB := n1_; have HK := n2_; clear n0_ n1_ n2_; clear hg hw hp_))
    go_ret
    exact ⟨eq_, by (with_reducible repeat (first | apply S_alloc | apply S_drewN | apply S_drew)); exact HO_0.out, bq HB.out, by repeat (first | (with_reducible first | exact HK.out | apply Kept.alloc | apply Kept.drewN | apply Kept.drew) | exact HK.out)⟩
set_option maxRecDepth 100000 in
theorem give_sub (k : Nat) (P0_ : Nat → Prop) (g j cU : Nat) (L T : List Int) (u9000_ : Value) (l0 : List Int) (A1 : Option Addr) (c1 : Nat) (l1 : List Int) (r : List Int) (w0 w : World) (hB : Below w0.heap.size w0 w) (ho0 : SR g j cU L T w w0.heap.size P0_ u9000_ l0) (hr1 : ∀ W_, Kept w W_ (fun k_ => P0_ k_) → Kd.C (Kd.int .u32) W_ A1 l1.length l1) (hc1 : l1.length ≤ c1) (h : nat_give.f k l0 l1 = some r) :
  Calls Tryz.prog 123 #[u9000_, .slice A1 l1.length c1] w fun e w' => e = .returned (.tuple #[]) ∧ SR g j cU L T w' w0.heap.size (fun k_ => (P0_ k_ ∨ w.heap.size ≤ k_)) u9000_ r ∧ Below w0.heap.size w0 w' ∧ Kept w w' (fun k_ => P0_ k_) := by
 have HO0 := md_ (show SR g j cU L T w w0.heap.size (fun k_ => (P0_ k_ ∨ w.heap.size ≤ k_)) u9000_ l0 from S_mono ho0 (fun k_ hk => (.inl hk)))
 have HR1 := md_ hr1
 have HC1 := md_ hc1
 clear hr1 hc1
 have HK := md_ (Kept.refl w (fun k_ => P0_ k_))
 have HW0 := md_ hB.size
 have HB := md_ hB
 clear hB
 have H : (nat_give.l0 k l0 l1 0 l1 (l1.length : Int) 0) = some r := h
 clear h
 have H' := md_ H
 clear H
 go_enter Tryz.func123, Tryz.ntmps123
 go_wp2
 go_loopg [4, 9] k (fun kq v4 v9 w' => ∃ (x0_1 : List Int) (x4_1 : Int) (x9_1 : Int), v4 = .int .u32 x4_1 ∧ v9 = .int .i64 x9_1 ∧ Aside0 (nat_give.l0 kq x0_1 l1 x4_1 l1 (l1.length : Int) x9_1 = some r) ∧ Aside0 (kq ≤ k) ∧ Aside0 (SR g j cU L T w' w0.heap.size (fun k_ => (P0_ k_ ∨ w.heap.size ≤ k_)) u9000_ x0_1) ∧ Aside0 (Kept w w' (fun k_ => P0_ k_)) ∧ Aside0 (Below w0.heap.size w0 w'))
 case atStart => exact ⟨(l0), (0), (0), aq, aq, H', ⟨Nat.le_refl _⟩, ⟨by (with_reducible repeat (first | apply S_alloc | apply S_drewN | apply S_drew)); exact HO0.out⟩, ⟨by repeat (first | (with_reducible first | exact HK.out | apply Kept.alloc | apply Kept.drewN | apply Kept.drew) | exact HK.out)⟩, ⟨bq HB.out⟩⟩
 case round =>
  clear H'
  (try clear c1); (try clear p2)
  obtain ⟨x0_1, x4_1, x9_1, rfl, rfl, HA, HK1, HO_0, HK, HB⟩ := hrel
  cases gk with
  | zero => exact absurd HA.out (by simp [nat_give.l0])
  | succ k1 =>
   have H := HA.out
   clear HA
   simp only [nat_give.l0] at H
   by_cases c3 : x9_1 < (l1.length : Int)
   ·rw [if_pos c3] at H
    have c3b0 := decide_eq_true c3
    clear c3
    obtain ⟨c4b0, H⟩ := od_ H
    obtain ⟨c5b0, H⟩ := od_ H
    obtain ⟨c6b0, H⟩ := od_ H
    replace H := Option.bind_eq_some_iff.mp H
    obtain ⟨⟨t527, t528⟩, A70, H⟩ := H
    dsimp only at H
    have A7 := md_ A70
    clear A70
    obtain ⟨y529, hy529⟩ : ∃ y_ : List Int, y_ = (x0_1.set (x9_1 : Int).toNat t527) := ⟨_, rfl⟩
    replace H : (nat_give.l0 k1 y529 l1 t528 l1 (l1.length : Int) (wrap64 (x9_1 + 1))) = some r := by first | (rw [hy529]; with_reducible exact H) | (have H2_ := (Option.bind_some _ _).symm.trans H; rw [hy529]; with_reducible exact H2_) | (have H2_ := (Option.bind_some _ _).symm.trans H; with_reducible exact H2_) | with_reducible exact H | (rw [hy529]; exact H) | exact H
    have Ny529 := md_ hy529
    clear hy529
    have H' := md_ H
    clear H
    have p525 : 0 ≤ (x9_1 : Int) := oq
    have q525 : x9_1 < (l1.length : Int) := oq
    obtain ⟨ad525, e525, hx525_0⟩ := Kd.at_int (Kd.C_kept_now HR1.out HK.out) x9_1 p525 q525
    cases e525
    replace p525 := eq_true p525
    replace q525 := eq_true q525
    obtain ⟨co9, eo9⟩ := S_slice HO_0.out
    subst eo9
    have p526 : 0 ≤ (x9_1 : Int) := oq
    have q526 : x9_1 < (x0_1.length : Int) := oq
    obtain ⟨ad526, e526, hx526_0⟩ := Kd.at_int (S_reads HO_0.out).2.2 x9_1 p526 q526
    cases e526
    (try simp only [Addr.add_lit] at hx526_0)
    replace p526 := eq_true p526
    replace q526 := eq_true q526
    go_wp2_with (first | ((with_reducible refine gate_callee (f := 124) rfl ?_); refine goesL_ (some 23) rfl rfl Tryz.func124 (by kernel_rfl) rfl #[.int .u32 (rd x0_1 x9_1), .int .u32 (rd l1 x9_1), .int .u32 x4_1] rfl gq ?_; (with_reducible refine (bits_Add32.calls (rd x0_1 x9_1) (rd l1 x9_1) x4_1 t527 t528 _ A7.out).mono ?_); rintro e w' ⟨rfl, ⟨nd, rfl⟩⟩; refine ⟨_, rfl, ?_⟩; (try (rw [drewN_self wr]; generalize hq_ : World.drewN wr _ = wr; have n0_ : Aside0 (SR g j cU L T wr w0.heap.size (fun k_ => (P0_ k_ ∨ w.heap.size ≤ k_)) (.slice (some ⟨g, j, none⟩) x0_1.length co9) x0_1) := ⟨by rw [← hq_]; exact (by (with_reducible repeat (first | apply S_alloc | apply S_drewN | apply S_drew)); exact HO_0.out)⟩; have n1_ : Aside0 (Kept w wr (fun k_ => P0_ k_)) := ⟨by rw [← hq_]; exact (by repeat (first | (with_reducible first | exact HK.out | apply Kept.alloc | apply Kept.drewN | apply Kept.drew) | exact HK.out))⟩; have n2_ : Aside0 (Below w0.heap.size w0 wr) := ⟨by rw [← hq_]; exact (bq HB.out)⟩; clear HO_0 HK HB hq_; have HO_0 := n0_; have HK := n1_; have HB := n2_; clear n0_ n1_ n2_)); have p8 : 0 ≤ (x9_1 : Int) := oq; have q8 : (x9_1 : Int) < ((x0_1.length : Int) : Int) := oq; obtain ⟨gb8, gl8, cl8, HG8⟩ := S_form HO_0.out; have GB8 := md_ gb8; have GG8 := md_ HG8; clear gb8 gl8 HG8; have HMgo8 := md_ (show (P0_ g ∨ w.heap.size ≤ g) from (SR.one HO_0.out _ rfl)); obtain ⟨hx8_0, hf8_0⟩ := S_celln HO_0.out (x9_1 : Int) p8 q8; (try simp only [Int.toNat_natCast] at hx8_0); (try simp only [Int.toNat_natCast] at hf8_0); replace p8 := eq_true p8; replace q8 := eq_true q8; obtain ⟨hy10_, hz10_⟩ := S_celln HO_0.out (x9_1 : Int) oq oq; have HP10 := S_putg HO_0.out (x9_1 : Int) t527 oq oq) | ((with_reducible refine gate_store (t := 119) (p := 26) rfl ?_); refine store_event (t := 119) (p := 26) (v := ?vo_w11) (w1 := (wr.setCell ⟨g, j + (x9_1 : Int).toNat, none⟩ (.int .u32 t527))) ?hg ?ho ?hn ?hr ?_; (case ho => rfl); (case hg => rfl); (case hn => rfl); (case hr => first | (go_simp; done) | (go_simp; rfl) | (obtain ⟨hx_, hf_⟩ := S_celln HO_0.out (x9_1 : Int) oq oq; (try simp only [Int.toNat_natCast] at hx_); (try simp only [Int.toNat_natCast] at hf_); first | (go_simp; done) | (go_simp; rfl))); intro w11 hw; have hg : wr.grownBy w11 (some g) := (by rw [hw]; exact HP10.2); have hp_ : SR g j cU L T w11 w0.heap.size (fun k_ => (P0_ k_ ∨ w.heap.size ≤ k_)) (.slice (some ⟨g, j, none⟩) x0_1.length co9) y529 := (by rw [hw, Ny529.out]; exact HP10.1); clear HP10; have n0_ := md_ (hp_); have n1_ := md_ ((by rw [hw]; exact below_set (HB.out) GB8.out : Below w0.heap.size w0 w11)); have n2_ := md_ (Kept.of_grown (S := (fun k_ => P0_ k_)) hg (by repeat (first | (with_reducible first | exact HK.out | apply Kept.alloc | apply Kept.drewN | apply Kept.drew) | exact HK.out)) (fun k_ e_ => (SR.one HO_0.out k_ e_))); clear HO_0; clear HB; clear HK; have HO_0 := n0_; have HB := n1_; have HK := n2_; clear n0_ n1_ n2_; clear hg hw hp_))
    go_roundg k1
    case measure => have := HK1.out; omega
    case rel => exact ⟨(y529), (t528), (wrap64 (x9_1 + 1)), aq, aq, H', ⟨by have := HK1.out; omega⟩, ⟨by (with_reducible repeat (first | apply S_alloc | apply S_drewN | apply S_drew)); exact HO_0.out⟩, ⟨by repeat (first | (with_reducible first | exact HK.out | apply Kept.alloc | apply Kept.drewN | apply Kept.drew) | exact HK.out)⟩, ⟨bq HB.out⟩⟩
   ·rw [if_neg c3] at H
    have c3b0 := decide_eq_false c3
    clear c3
    obtain ⟨c12, H⟩ := oi_ H
    have c12b0 : decide (0 ≤ (l1.length : Int)) = true := decide_eq_true c12
    have c12b1 : decide (0 ≤ l1.length) = true := decide_eq_true (by omega)
    clear c12
    obtain ⟨c13, H⟩ := oi_ H
    have c13b0 : decide ((l1.length : Int) < (x0_1.length : Int)) = true := decide_eq_true c13
    have c13b1 : decide (l1.length < x0_1.length) = true := decide_eq_true (Int.ofNat_lt.mp c13)
    clear c13
    obtain ⟨y531, hy531⟩ : ∃ y_ : List Int, y_ = (x0_1.set ((l1.length : Int) : Int).toNat (((rd x0_1 (l1.length : Int)) + x4_1) % 4294967296)) := ⟨_, rfl⟩
    replace H : (some y531) = some r := by first | (rw [hy531]; with_reducible exact H) | (have H2_ := (Option.bind_some _ _).symm.trans H; rw [hy531]; with_reducible exact H2_) | (have H2_ := (Option.bind_some _ _).symm.trans H; with_reducible exact H2_) | with_reducible exact H | (rw [hy531]; exact H) | exact H
    have Ny531 := md_ hy531
    clear hy531
    obtain rfl := Option.some.inj H
    obtain ⟨co15, eo15⟩ := S_slice HO_0.out
    subst eo15
    have p530 : 0 ≤ ((l1.length : Int) : Int) := oq
    have q530 : (l1.length : Int) < (x0_1.length : Int) := oq
    obtain ⟨ad530, e530, hx530_0⟩ := Kd.at_int (S_reads HO_0.out).2.2 (l1.length : Int) p530 q530
    cases e530
    (try simp only [Addr.add_lit] at hx530_0)
    (try simp only [Go.IntWalk.toNatUp] at hx530_0)
    replace p530 := eq_true p530
    replace q530 := eq_true q530
    have p14 : 0 ≤ ((l1.length : Int) : Int) := oq
    have q14 : ((l1.length : Int) : Int) < ((x0_1.length : Int) : Int) := oq
    obtain ⟨gb14, gl14, cl14, HG14⟩ := S_form HO_0.out
    have GB14 := md_ gb14
    have GG14 := md_ HG14
    clear gb14 gl14 HG14
    have HMgo14 := md_ (show (P0_ g ∨ w.heap.size ≤ g) from (SR.one HO_0.out _ rfl))
    (first | simp only [add_plain] at hx530_0 | skip)
    obtain ⟨hx14_0, hf14_0⟩ := S_celln HO_0.out ((l1.length : Int) : Int) p14 q14
    (try simp only [Int.toNat_natCast] at hx14_0)
    (try simp only [Int.toNat_natCast] at hf14_0)
    replace p14 := eq_true p14
    replace q14 := eq_true q14
    have HP16 := S_putg HO_0.out ((l1.length : Int) : Int) (((rd x0_1 (l1.length : Int)) + x4_1) % 4294967296) oq oq
    go_wp2_with (first | ((with_reducible refine gate_store (t := 119) (p := 35) rfl ?_); refine store_event (t := 119) (p := 35) (v := ?vo_w17) (w1 := (wr.setCell ⟨g, j + ((l1.length : Int) : Int).toNat, none⟩ (.int .u32 (((rd x0_1 (l1.length : Int)) + x4_1) % 4294967296)))) ?hg ?ho ?hn ?hr ?_; (case ho => rfl); (case hg => rfl); (case hn => rfl); (case hr => first | (go_simp; done) | (go_simp; rfl) | (obtain ⟨hx_, hf_⟩ := S_celln HO_0.out ((l1.length : Int) : Int) oq oq; (try simp only [Int.toNat_natCast] at hx_); (try simp only [Int.toNat_natCast] at hf_); first | (go_simp; done) | (go_simp; rfl))); intro w17 hw; have hg : wr.grownBy w17 (some g) := (by rw [hw]; exact HP16.2); have hp_ : SR g j cU L T w17 w0.heap.size (fun k_ => (P0_ k_ ∨ w.heap.size ≤ k_)) (.slice (some ⟨g, j, none⟩) x0_1.length co15) y531 := (by rw [hw, Ny531.out]; exact HP16.1); clear HP16; have n0_ := md_ (hp_); have n1_ := md_ ((by rw [hw]; exact below_set (HB.out) GB14.out : Below w0.heap.size w0 w17)); have n2_ := md_ (Kept.of_grown (S := (fun k_ => P0_ k_)) hg (by repeat (first | (with_reducible first | exact HK.out | apply Kept.alloc | apply Kept.drewN | apply Kept.drew) | exact HK.out)) (fun k_ e_ => (SR.one HO_0.out k_ e_))); clear HO_0; clear HB; clear HK; have HO_0 := n0_; have HB := n1_; have HK := n2_; clear n0_ n1_ n2_; clear hg hw hp_))
    first | go_end0 | ((try simp only [Exit.inBlock, Exit.then]); refine bodyPost_ret (results_none rfl _ _ _) rfl ?_)
    exact ⟨eq_, by (with_reducible repeat (first | apply S_alloc | apply S_drewN | apply S_drew)); exact HO_0.out, bq HB.out, by repeat (first | (with_reducible first | exact HK.out | apply Kept.alloc | apply Kept.drewN | apply Kept.drew) | exact HK.out)⟩
end Go.Proofs.YtneepokiioefgaaGreatDoor.PNat
namespace Go.Proofs.YtneepokiioefgaaGreatDoor.PNat
open Go.RowKit YtneepokiioefgaaGreatDoorW.PrintWords YtneepokiioefgaaGreatDoorW.PrintLast YtneepokiioefgaaGreatDoorW.PrintMore
theorem cut_mid {P : Program} (t e : TypeId) (kl kh : IntKind) {i : TypeInfo} (ht : P.underlying t = some (.slice e)) (hi : P.info? e = some i) (hsz : i.size = 1) (ad : Addr) (n c : Nat) (l h : Int) (h0 : 0 ≤ l) (h1 : l < h) (h2 : h ≤ c) :
  ∀ W : World, (Instr.slice t (.slice (some ad) n c) (some (.int kl l)) (some (.int kh h)) none).run P W = .ok (.slice (some (ad.add l.toNat)) (h.toNat - l.toNat) (c - l.toNat)) W := by
 intro W
 have hel : P.elem t = e := by simp [Program.elem, ht]
 have hu : P.underlying t = some (.slice (P.elem t)) := by rw [hel]; exact ht
 rw [run_slice_lh W t (some ad) n c hu kl kh l h h0 (by omega) h2, hel]
 have h3 : ¬ c = l.toNat := by omega
 simp [sizeOf, typeInfo, hi, hsz, sliced, Result.andThen, h3]
def nat_takeAt.f (k : Nat) (U : List Int) (J nn : Int) (V : List Int) (d : Int) : Option (Bool × List Int) :=
 if 0 ≤ J then (if J < wrap64 (wrap64 (J + nn) + 1) then (if wrap64 (wrap64 (J + nn) + 1) ≤ (U.length : Int) then
  ((nat_take.f k ((U.take (wrap64 (wrap64 (J + nn) + 1)).toNat).drop J.toNat) V d).bind fun bt => some (bt.1, U.take J.toNat ++ bt.2 ++ U.drop (wrap64 (wrap64 (J + nn) + 1)).toNat)) else none) else none) else none
def nat_giveAt.f (k : Nat) (U : List Int) (J nn : Int) (V : List Int) : Option (List Int) :=
 if 0 ≤ J then (if J < wrap64 (wrap64 (J + nn) + 1) then (if wrap64 (wrap64 (J + nn) + 1) ≤ (U.length : Int) then
  ((nat_give.f k ((U.take (wrap64 (wrap64 (J + nn) + 1)).toNat).drop J.toNat) V).bind fun t => some (U.take J.toNat ++ t ++ U.drop (wrap64 (wrap64 (J + nn) + 1)).toNat)) else none) else none) else none
theorem nat_takeAt_split {k : Nat} {U : List Int} {J nn : Int} {V : List Int} {d : Int} {R : Bool × List Int} (h : nat_takeAt.f k U J nn V d = some R) :
  (0 ≤ J ∧ J < wrap64 (wrap64 (J + nn) + 1) ∧ wrap64 (wrap64 (J + nn) + 1) ≤ (U.length : Int)) ∧ ∃ b X, nat_take.f k ((U.take (wrap64 (wrap64 (J + nn) + 1)).toNat).drop J.toNat) V d = some (b, X) ∧ R = (b, U.take J.toNat ++ X ++ U.drop (wrap64 (wrap64 (J + nn) + 1)).toNat) := by
 unfold nat_takeAt.f at h
 by_cases h0 : 0 ≤ J
 ·rw [if_pos h0] at h
  by_cases h1 : J < wrap64 (wrap64 (J + nn) + 1)
  ·rw [if_pos h1] at h
   by_cases h2 : wrap64 (wrap64 (J + nn) + 1) ≤ (U.length : Int)
   ·rw [if_pos h2] at h
    obtain ⟨⟨b, X⟩, hb, h⟩ := Option.bind_eq_some_iff.mp h
    exact ⟨⟨h0, h1, h2⟩, b, X, hb, (Option.some.inj h).symm⟩
   ·rw [if_neg h2] at h; exact absurd h (by simp)
  ·rw [if_neg h1] at h; exact absurd h (by simp)
 ·rw [if_neg h0] at h; exact absurd h (by simp)
theorem nat_giveAt_split {k : Nat} {U : List Int} {J nn : Int} {V : List Int} {R : List Int} (h : nat_giveAt.f k U J nn V = some R) :
  (0 ≤ J ∧ J < wrap64 (wrap64 (J + nn) + 1) ∧ wrap64 (wrap64 (J + nn) + 1) ≤ (U.length : Int)) ∧ ∃ X, nat_give.f k ((U.take (wrap64 (wrap64 (J + nn) + 1)).toNat).drop J.toNat) V = some X ∧ R = U.take J.toNat ++ X ++ U.drop (wrap64 (wrap64 (J + nn) + 1)).toNat := by
 unfold nat_giveAt.f at h
 by_cases h0 : 0 ≤ J
 ·rw [if_pos h0] at h
  by_cases h1 : J < wrap64 (wrap64 (J + nn) + 1)
  ·rw [if_pos h1] at h
   by_cases h2 : wrap64 (wrap64 (J + nn) + 1) ≤ (U.length : Int)
   ·rw [if_pos h2] at h
    obtain ⟨X, hb, h⟩ := Option.bind_eq_some_iff.mp h
    exact ⟨⟨h0, h1, h2⟩, X, hb, (Option.some.inj h).symm⟩
   ·rw [if_neg h2] at h; exact absurd h (by simp)
  ·rw [if_neg h1] at h; exact absurd h (by simp)
 ·rw [if_neg h0] at h; exact absurd h (by simp)
theorem nat_takeAt_some {k : Nat} {U : List Int} {J nn : Int} {V : List Int} {d : Int} {R : Bool × List Int} (h : nat_takeAt.f k U J nn V d = some R) : 0 ≤ J ∧ J < wrap64 (wrap64 (J + nn) + 1) ∧ wrap64 (wrap64 (J + nn) + 1) ≤ (U.length : Int) := (nat_takeAt_split h).1
theorem nat_giveAt_some {k : Nat} {U : List Int} {J nn : Int} {V : List Int} {R : List Int} (h : nat_giveAt.f k U J nn V = some R) : 0 ≤ J ∧ J < wrap64 (wrap64 (J + nn) + 1) ∧ wrap64 (wrap64 (J + nn) + 1) ≤ (U.length : Int) := (nat_giveAt_split h).1
theorem nat_cutC {w : World} {A : Option Addr} {t y : List Int} {m : Nat} (hy : y = t.take m) (h : Kd.C (Kd.int .u32) w A t.length t) (hm : m ≤ t.length) : Kd.C (Kd.int .u32) w A y.length y := by
 subst hy
 exact Kd.C_take h hm
theorem nat_cutL {t y : List Int} {m : Nat} (hy : y = t.take m) : y.length ≤ t.length := by
 subst hy
 rw [List.length_take]
 omega
theorem sr_of_R {w : World} {base n c : Nat} {ok : Nat → Prop} {ad : Addr} {U : List Int} {j h : Nat} (hR : Kd.R (Kd.int .u32) 119 w base ok (.slice (some ad) n c) U) (h1 : j < h) (h2 : h ≤ U.length) :
  ∃ g, ad = ⟨g, 0, none⟩ ∧ n = U.length ∧ U.length ≤ c ∧ SR g j c (U.take j) (U.drop h) w base ok (.slice (some ⟨g, j, none⟩) (h - j) (c - j)) ((U.take h).drop j) := by
 obtain ⟨g, cap, e, a, b, cl⟩ := Kd.R_form hR (by omega)
 obtain ⟨hn, hc, _⟩ := Kd.R_reads' hR
 injection e with e1 e2 e3
 injection e1 with e1
 subst e1 e3
 have hU : U.take j ++ (U.take h).drop j ++ U.drop h = U := by
  have h3 : U.take j = (U.take h).take j := by rw [List.take_take, Nat.min_eq_left (by omega)]
  rw [h3, List.take_append_drop, List.take_append_drop]
 have hl : ((U.take h).drop j).length = h - j := by rw [List.length_drop, List.length_take]; omega
 refine ⟨g, rfl, hn, by omega, c - j, by rw [hl], by rw [hl]; omega, by rw [List.length_take]; omega, by rw [hl]; omega, ?_⟩
 rw [hU, ← hn]
 exact hR
theorem R_of_sr {w : World} {base n c g j h : Nat} {ok : Nat → Prop} {U X : List Int} {v : Value} (hS : SR g j c (U.take j) (U.drop h) w base ok v X) (hX : X.length = h - j) (h1 : j < h) (h2 : h ≤ U.length) (hn : n = U.length) :
  Kd.R (Kd.int .u32) 119 w base ok (.slice (some ⟨g, 0, none⟩) n c) (U.take j ++ X ++ U.drop h) := by
 obtain ⟨cap, e, hc, hj, h3, hR⟩ := hS
 rw [show (U.take j ++ X ++ U.drop h).length = n by rw [List.length_append, List.length_append, List.length_take, List.length_drop, hX, hn]; omega] at hR
 exact hR
theorem nat_take_at (k : Nat) (P0_ : Nat → Prop) (ad : Addr) (n c : Nat) (U : List Int) (J nn : Int) (A1 : Option Addr) (c1 : Nat) (l1 : List Int) (a2 : Int) (r1 : Bool) (r2 : List Int) (w0 w : World) (H : Int) (hH : wrap64 (wrap64 (J + nn) + 1) = H) (hB : Below w0.heap.size w0 w) (ho0 : Kd.R (Kd.int .u32) 119 w w0.heap.size P0_ (.slice (some ad) n c) U) (hr1 : ∀ W_, Kept w W_ (fun k_ => P0_ k_) → Kd.C (Kd.int .u32) W_ A1 l1.length l1) (hc1 : l1.length ≤ c1) (h : nat_takeAt.f k U J nn l1 a2 = some (r1, r2)) :
  Calls Tryz.prog 122 #[.slice (some (ad.add J.toNat)) (H.toNat - J.toNat) (c - J.toNat), .slice A1 l1.length c1, .int .u64 a2] w fun e w' => e = .returned (.bool r1) ∧ Kd.R (Kd.int .u32) 119 w' w0.heap.size (fun k_ => (P0_ k_ ∨ w.heap.size ≤ k_)) (.slice (some ad) n c) r2 ∧ Below w0.heap.size w0 w' ∧ Kept w w' (fun k_ => P0_ k_) := by
 obtain ⟨⟨h0, h1, h2⟩, b, X, hX, hR⟩ := nat_takeAt_split h
 rw [hH] at h1 h2 hX hR
 obtain ⟨rfl, rfl⟩ := Prod.mk.inj hR
 obtain ⟨g, rfl, hn, hc, hS⟩ := sr_of_R ho0 (j := J.toNat) (h := H.toNat) (by omega) (by omega)
 rw [Addr.add_lit, Nat.zero_add]
 refine (take_sub k P0_ g J.toNat c (U.take J.toNat) (U.drop H.toNat) _ _ A1 c1 l1 a2 r1 X w0 w hB hS hr1 hc1 hX).mono ?_
 rintro e w' ⟨e1, hS', hb, hk⟩
 obtain ⟨c', hv⟩ := S_slice hS'
 injection hv with _ hv _
 exact ⟨e1, R_of_sr hS' hv.symm (by omega) (by omega) hn, hb, hk⟩
theorem nat_give_at (k : Nat) (P0_ : Nat → Prop) (ad : Addr) (n c : Nat) (U : List Int) (J nn : Int) (A1 : Option Addr) (c1 : Nat) (l1 : List Int) (r : List Int) (w0 w : World) (H : Int) (hH : wrap64 (wrap64 (J + nn) + 1) = H) (hB : Below w0.heap.size w0 w) (ho0 : Kd.R (Kd.int .u32) 119 w w0.heap.size P0_ (.slice (some ad) n c) U) (hr1 : ∀ W_, Kept w W_ (fun k_ => P0_ k_) → Kd.C (Kd.int .u32) W_ A1 l1.length l1) (hc1 : l1.length ≤ c1) (h : nat_giveAt.f k U J nn l1 = some r) :
  Calls Tryz.prog 123 #[.slice (some (ad.add J.toNat)) (H.toNat - J.toNat) (c - J.toNat), .slice A1 l1.length c1] w fun e w' => e = .returned (.tuple #[]) ∧ Kd.R (Kd.int .u32) 119 w' w0.heap.size (fun k_ => (P0_ k_ ∨ w.heap.size ≤ k_)) (.slice (some ad) n c) r ∧ Below w0.heap.size w0 w' ∧ Kept w w' (fun k_ => P0_ k_) := by
 obtain ⟨⟨h0, h1, h2⟩, X, hX, hR⟩ := nat_giveAt_split h
 rw [hH] at h1 h2 hX hR
 subst hR
 obtain ⟨g, rfl, hn, hc, hS⟩ := sr_of_R ho0 (j := J.toNat) (h := H.toNat) (by omega) (by omega)
 rw [Addr.add_lit, Nat.zero_add]
 refine (give_sub k P0_ g J.toNat c (U.take J.toNat) (U.drop H.toNat) _ _ A1 c1 l1 X w0 w hB hS hr1 hc1 hX).mono ?_
 rintro e w' ⟨e1, hS', hb, hk⟩
 obtain ⟨c', hv⟩ := S_slice hS'
 injection hv with _ hv _
 exact ⟨e1, R_of_sr hS' hv.symm (by omega) (by omega) hn, hb, hk⟩
end Go.Proofs.YtneepokiioefgaaGreatDoor.PNat
namespace Go.Proofs.YtneepokiioefgaaGreatDoor.PNat
open Go.RowKit YtneepokiioefgaaGreatDoorW.PrintWords YtneepokiioefgaaGreatDoorW.PrintLast YtneepokiioefgaaGreatDoorW.PrintMore
attribute [local go_sem] max2_int min2_int max_two min_two max_three min_three max_four min_four
def nat_short.l0 : Nat → List Int → Int → List Int → Int → Int → Option (List Int × Int)
 | 0, _, _, _, _, _ => none
 | k + 1, x0, x1, x4, x5, x6 => if x6 ≥ 0 then (if 0 ≤ x6 then (if x6 < (x0.length : Int) then ((bits_Div32.f x5 (rd x0 x6) x1).bind fun bt511 => (if x6 < (x4.length : Int) then (nat_short.l0 k x0 x1 (x4.set (x6 : Int).toNat bt511.1) bt511.2 (wrap64 (x6 - 1))) else (none))) else (none)) else (none)) else (some (x4, x5))
def nat_short.f (k : Nat) (l0 : List Int) (a1 : Int) : Option (List Int × Int) := if 0 ≤ (l0.length : Int) then (if ((l0.length : Int) : Int).toNat ≤ 70368744177664 then (nat_short.l0 k l0 a1 (List.replicate ((l0.length : Int) : Int).toNat 0) 0 (wrap64 ((l0.length : Int) - 1))) else (none)) else (none)
set_option maxRecDepth 100000 in
theorem nat_short.calls (k : Nat) (A0 : Option Addr) (c0 : Nat) (l0 : List Int) (a1 : Int) (r1 : List Int) (r2 : Int) (w : World) (hr0 : Kd.C (Kd.int .u32) w A0 l0.length l0) (hc0 : l0.length ≤ c0) (h : nat_short.f k l0 a1 = some (r1, r2)) :
  Calls Tryz.prog 118 #[.slice A0 l0.length c0, .int .u32 a1] w fun e w' => ∃ v0_ : Value, e = .returned (.tuple #[v0_, .int .u32 r2]) ∧ Kd.R (Kd.int .u32) 119 w' w.heap.size (fun _ => True) v0_ r1 ∧ Below w.heap.size w w' := by
 have HR0 := md_ hr0
 have HC0 := md_ hc0
 clear hr0 hc0
 have HB := md_ (Below.refl w.heap.size w)
 have H : (if 0 ≤ (l0.length : Int) then (if ((l0.length : Int) : Int).toNat ≤ 70368744177664 then (nat_short.l0 k l0 a1 (List.replicate ((l0.length : Int) : Int).toNat 0) 0 (wrap64 ((l0.length : Int) - 1))) else (none)) else (none)) = some (r1, r2) := h
 clear h
 obtain ⟨c3, H⟩ := oi_ H
 have c3b0 := eq_true c3
 have c3b1 : decide (0 ≤ (l0.length : Int)) = true := decide_eq_true c3
 clear c3
 obtain ⟨c4, H⟩ := oi_ H
 have c4b0 := eq_true c4
 have c4b1 : decide (((l0.length : Int) : Int).toNat ≤ 70368744177664) = true := decide_eq_true c4
 clear c4
 obtain ⟨y507, hy507⟩ : ∃ y_ : List Int, y_ = (List.replicate ((l0.length : Int) : Int).toNat 0) := ⟨_, rfl⟩
 replace H : (nat_short.l0 k l0 a1 y507 0 (wrap64 ((l0.length : Int) - 1))) = some (r1, r2) := by first | (rw [hy507]; with_reducible exact H) | (have H2_ := (Option.bind_some _ _).symm.trans H; rw [hy507]; with_reducible exact H2_) | (have H2_ := (Option.bind_some _ _).symm.trans H; with_reducible exact H2_) | with_reducible exact H | (rw [hy507]; exact H) | exact H
 have Ny507 := md_ hy507
 clear hy507
 have H' := md_ H
 clear H
 go_enter Tryz.func118, Tryz.ntmps118
 go_wp2_with (first | ((with_reducible refine gate_dst (N := 9) rfl ?_); refine Kd.R_make (Kd.int .u32) _ 119 rfl (N := 9) rfl 96 _ _ rfl (l0.length : Int) rfl rfl Tryz.underlying96 (.int .u32 0) 4 info119 rfl (by decide) (by omega) 0 (ok := fun _ => True) (okp := fun _ => True) rfl (fun _ hk => hk) trivial oq (Nat.le_trans (Nat.mul_le_mul_right _ (oq : (l0.length : Int).toNat ≤ 70368744177664)) (by omega)) (Below.refl _ _) (Nat.le_refl _) ?_; intro v508 w5 ho6 hb hg_ hnew_; clear hg_ hnew_; (first | rw [← Ny507.out] at ho6 | (simp only [Int.reduceToNat] at ho6; rw [← Ny507.out] at ho6)); have HO509 := md_ (Kd.R_lower ho6 (below_size (bq HB.out))); replace HB := bb_ HB hb; clear hb ho6))
 go_loopg [5, 6] k (fun kq v5 v6 w' => ∃ (x4_1 : List Int) (x5_1 : Int) (x6_1 : Int), v5 = .int .u32 x5_1 ∧ v6 = .int .i64 x6_1 ∧ Aside0 (nat_short.l0 kq l0 a1 x4_1 x5_1 x6_1 = some (r1, r2)) ∧ Aside0 (kq ≤ k) ∧ Aside0 (Kd.R (Kd.int .u32) 119 w' w.heap.size (fun _ => True) v508 x4_1) ∧ Aside0 (Below w.heap.size w w'))
 case atStart => exact ⟨(y507), (0), (wrap64 ((l0.length : Int) - 1)), aq, aq, H', ⟨Nat.le_refl _⟩, ⟨rq HO509.out⟩, ⟨bq HB.out⟩⟩
 case round =>
  clear H'
  (try clear p2); (try clear c3); (try clear c3b0); (try clear c3b1); (try clear c4); (try clear c4b0); (try clear c4b1); (try clear p6)
  obtain ⟨x4_1, x5_1, x6_1, rfl, rfl, HA, HK1, HO_4, HB⟩ := hrel
  cases gk with
  | zero => exact absurd HA.out (by simp [nat_short.l0])
  | succ k1 =>
   have H := HA.out
   clear HA
   simp only [nat_short.l0] at H
   by_cases c7 : x6_1 ≥ 0
   ·rw [if_pos c7] at H
    have c7b0 : decide (0 ≤ x6_1) = true := decide_eq_true c7
    clear c7
    obtain ⟨c8b0, H⟩ := od_ H
    obtain ⟨c9b0, H⟩ := od_ H
    replace H := Option.bind_eq_some_iff.mp H
    obtain ⟨⟨t511, t512⟩, A100, H⟩ := H
    dsimp only at H
    have A10 := md_ A100
    clear A100
    obtain ⟨c11b0, H⟩ := od_ H
    obtain ⟨y513, hy513⟩ : ∃ y_ : List Int, y_ = (x4_1.set (x6_1 : Int).toNat t511) := ⟨_, rfl⟩
    replace H : (nat_short.l0 k1 l0 a1 y513 t512 (wrap64 (x6_1 - 1))) = some (r1, r2) := by first | (rw [hy513]; with_reducible exact H) | (have H2_ := (Option.bind_some _ _).symm.trans H; rw [hy513]; with_reducible exact H2_) | (have H2_ := (Option.bind_some _ _).symm.trans H; with_reducible exact H2_) | with_reducible exact H | (rw [hy513]; exact H) | exact H
    have Ny513 := md_ hy513
    clear hy513
    have H' := md_ H
    clear H
    have p510 : 0 ≤ (x6_1 : Int) := oq
    have q510 : x6_1 < (l0.length : Int) := oq
    obtain ⟨ad510, e510, hx510_0⟩ := Kd.at_int HR0.out x6_1 p510 q510
    cases e510
    replace hx510_0 := (HB.out.cell (World.block_lt_of_cell? w _ hx510_0)).trans hx510_0
    replace p510 := eq_true p510
    replace q510 := eq_true q510
    go_wp2_with (first | ((with_reducible refine gate_callee (f := 125) rfl ?_); refine goesL_ (some 26) rfl rfl Tryz.func125 (by kernel_rfl) rfl #[.int .u32 x5_1, .int .u32 (rd l0 x6_1), .int .u32 a1] rfl gq ?_; (with_reducible refine (bits_Div32.calls x5_1 (rd l0 x6_1) a1 t511 t512 _ A10.out).mono ?_); rintro e w' ⟨rfl, ⟨nd, rfl⟩⟩; refine ⟨_, rfl, ?_⟩; (try (rw [drewN_self wr]; generalize hq_ : World.drewN wr _ = wr; have n0_ : Aside0 (Kd.R (Kd.int .u32) 119 wr w.heap.size (fun _ => True) v508 x4_1) := ⟨by rw [← hq_]; exact (rq HO_4.out)⟩; have n1_ : Aside0 (Below w.heap.size w wr) := ⟨by rw [← hq_]; exact (bq HB.out)⟩; clear HO_4 HB hq_; have HO_4 := n0_; have HB := n1_; clear n0_ n1_)); have p12 : 0 ≤ (x6_1 : Int) := oq; have q12 : (x6_1 : Int) < ((x4_1.length : Int) : Int) := oq; obtain ⟨go12, co12, eo12, gb12, gl12, cl12, HG12⟩ := Kd.R_form HO_4.out (by omega); (first | cases eo12 | (injection eo12 with ea_ en_ ec_; (first | subst ea_ | (injection ea_ with ea_; subst ea_)); subst ec_; clear en_)); have GB12 := md_ gb12; have GG12 := md_ HG12; clear gb12 gl12 HG12; obtain ⟨hx12_0, hf12_0⟩ := Kd.R_celln 0 HO_4.out (x6_1 : Int) p12 q12; (try simp only [Int.toNat_natCast] at hx12_0); (try simp only [Int.toNat_natCast] at hf12_0); replace p12 := eq_true p12; replace q12 := eq_true q12; obtain ⟨hy13_, hz13_⟩ := Kd.R_celln 0 HO_4.out (x6_1 : Int) oq oq; have HP13 := Kd.R_putg HO_4.out (x6_1 : Int) t511) | ((with_reducible refine gate_store (t := 119) (p := 29) rfl ?_); refine store_event (t := 119) (p := 29) (v := ?vo_w14) (w1 := (wr.setCell ⟨go12, (x6_1 : Int).toNat, none⟩ (.int .u32 t511))) ?hg ?ho ?hn ?hr ?_; (case ho => rfl); (case hg => rfl); (case hn => rfl); (case hr => first | (go_simp; done) | (go_simp; rfl) | (obtain ⟨hx_, hf_⟩ := Kd.R_celln 0 HO_4.out (x6_1 : Int) oq oq; (try simp only [Int.toNat_natCast] at hx_); (try simp only [Int.toNat_natCast] at hf_); first | (go_simp; done) | (go_simp; rfl))); intro w14 hw; have hg : wr.grownBy w14 (some go12) := (by rw [hw]; exact HP13.2); have hp_ : Kd.R (Kd.int .u32) 119 w14 w.heap.size (fun _ => True) (.slice (some ⟨go12, 0, none⟩) x4_1.length co12) y513 := (by rw [hw, Ny513.out]; exact HP13.1); clear HP13; replace HO_4 := md_ (hp_); replace HB := md_ ((by rw [hw]; exact below_set (HB.out) GB12.out : Below w.heap.size w w14)); clear hg hw hp_))
    go_roundg k1
    case measure => have := HK1.out; omega
    case rel => exact ⟨(y513), (t512), (wrap64 (x6_1 - 1)), aq, aq, H', ⟨by have := HK1.out; omega⟩, ⟨rq HO_4.out⟩, ⟨bq HB.out⟩⟩
   ·rw [if_neg c7] at H
    have c7b0 : decide (0 ≤ x6_1) = false := decide_eq_false c7
    clear c7
    simp only [Option.some.injEq, Prod.mk.injEq] at H
    obtain ⟨rfl, rfl⟩ := H
    go_wp2
    go_ret2
    exact ⟨_, eq_, rq HO_4.out, bq HB.out⟩
def bits_LeadingZeros32.f (a0 : Int) : Option (Int) := if 0 ≤ a0 ∧ a0 ≤ 4294967295 then some (32 - ((Lib.bitLen a0.toNat : Nat) : Int)) else none
theorem bits_LeadingZeros32.calls (a0 : Int) (r : Int) (w : World) (h : bits_LeadingZeros32.f a0 = some r) :
  Calls Tryz.prog 119 #[.int .u32 a0] w fun e w' => e = .returned (.int .i64 r) ∧ Drawn0 w w' := by
 unfold bits_LeadingZeros32.f at h
 by_cases hc : 0 ≤ a0 ∧ a0 ≤ 4294967295
 ·rw [if_pos hc] at h
  obtain rfl := Option.some.inj h
  exact (Tryz.bits_LeadingZeros32 a0 w hc.1 hc.2).mono fun e w' ⟨h1, h2⟩ => ⟨h1, by subst h2; exact Drawn0.refl _⟩
 ·rw [if_neg hc] at h
  exact absurd h (by simp)
def nat_guess.l0 : Nat → Int → Int → Int → Int → Int → Option (Int)
 | 0, _, _, _, _, _ => none
 | k + 1, x2, x3, x4, x13, x14 => if x14 < 4294967296 then (if (IntKind.u64.wrap (x13 * (IntKind.u64.wrap (x4)))) > (Go.bits .or .u64 (IntKind.u64.wrap (x14 * 4294967296)) (IntKind.u64.wrap (x2))) then (nat_guess.l0 k x2 x3 x4 (IntKind.u64.wrap (x13 - 1)) (IntKind.u64.wrap (x14 + (IntKind.u64.wrap (x3))))) else (some x13)) else (some x13)
def nat_guess.f (k : Nat) (a0 : Int) (a1 : Int) (a2 : Int) (a3 : Int) (a4 : Int) : Option (Int) := if a0 ≥ a3 then (some 4294967295) else ((bits_Div32.f a0 a1 a3).bind fun bt514 => (nat_guess.l0 k a2 a3 a4 (IntKind.u64.wrap (bt514.1)) (IntKind.u64.wrap (bt514.2))))
set_option maxRecDepth 100000 in
theorem nat_guess.calls (k : Nat) (a0 : Int) (a1 : Int) (a2 : Int) (a3 : Int) (a4 : Int) (r : Int) (w : World) (h : nat_guess.f k a0 a1 a2 a3 a4 = some r) :
  Calls Tryz.prog 121 #[.int .u32 a0, .int .u32 a1, .int .u32 a2, .int .u32 a3, .int .u32 a4] w fun e w' => e = .returned (.int .u64 r) ∧ Drawn0 w w' := by
 have H : (if a0 ≥ a3 then (some 4294967295) else ((bits_Div32.f a0 a1 a3).bind fun bt514 => (nat_guess.l0 k a2 a3 a4 (IntKind.u64.wrap (bt514.1)) (IntKind.u64.wrap (bt514.2))))) = some r := h
 clear h
 by_cases c6 : a0 ≥ a3
 ·rw [if_pos c6] at H
  have c6b0 : decide (a3 ≤ a0) = true := decide_eq_true c6
  clear c6
  obtain rfl := Option.some.inj H
  go_enter Tryz.func121, Tryz.ntmps121
  go_wp2
  go_ret
  exact ⟨by first | rfl | (simp; done) | (simp [*]; done), by repeat (first | exact Drawn0.refl _ | apply Drawn0.step)⟩
 ·rw [if_neg c6] at H
  have c6b0 : decide (a3 ≤ a0) = false := decide_eq_false c6
  clear c6
  replace H := Option.bind_eq_some_iff.mp H
  obtain ⟨⟨t514, t515⟩, A70, H⟩ := H
  dsimp only at H
  have A7 := md_ A70
  clear A70
  have H' := md_ H
  clear H
  go_enter Tryz.func121, Tryz.ntmps121
  go_wp2_with (first | ((with_reducible refine gate_callee (f := 125) rfl ?_); refine goesL_ (some 22) rfl rfl Tryz.func125 (by kernel_rfl) rfl #[.int .u32 a0, .int .u32 a1, .int .u32 a3] rfl gq ?_; (with_reducible refine (bits_Div32.calls a0 a1 a3 t514 t515 _ A7.out).mono ?_); rintro e w' ⟨rfl, ⟨nd, rfl⟩⟩; refine ⟨_, rfl, ?_⟩))
  go_loopg [13, 14] k (fun kq v13 v14 w' => ∃ (x13_1 : Int) (x14_1 : Int), v13 = .int .u64 x13_1 ∧ v14 = .int .u64 x14_1 ∧ Aside0 (nat_guess.l0 kq a2 a3 a4 x13_1 x14_1 = some r) ∧ Aside0 (kq ≤ k) ∧ Drawn0 w w')
  case atStart => exact ⟨(IntKind.u64.wrap (t514)), (IntKind.u64.wrap (t515)), aq, aq, H', ⟨Nat.le_refl _⟩, by repeat (first | exact Drawn0.refl _ | apply Drawn0.step)⟩
  case round =>
   clear H'
   (try clear p2); (try clear c3); (try clear c5); (try clear c6); (try clear c6b0)
   obtain ⟨x13_1, x14_1, rfl, rfl, HA, HK1, ⟨m1, rfl⟩⟩ := hrel
   cases gk with
   | zero => exact absurd HA.out (by simp [nat_guess.l0])
   | succ k1 =>
    have H := HA.out
    clear HA
    simp only [nat_guess.l0] at H
    by_cases c8 : x14_1 < 4294967296
    ·rw [if_pos c8] at H
     have c8b0 := decide_eq_true c8
     clear c8
     by_cases c9 : (IntKind.u64.wrap (x13_1 * (IntKind.u64.wrap (a4)))) > (Go.bits .or .u64 (IntKind.u64.wrap (x14_1 * 4294967296)) (IntKind.u64.wrap (a2)))
     ·rw [if_pos c9] at H
      have c9b0 : decide ((Go.bits .or .u64 (IntKind.u64.wrap (x14_1 * 4294967296)) (IntKind.u64.wrap (a2))) < (IntKind.u64.wrap (x13_1 * (IntKind.u64.wrap (a4))))) = true := decide_eq_true c9
      clear c9
      have H' := md_ H
      clear H
      go_wp2
      go_roundg k1
      case measure => have := HK1.out; omega
      case rel => exact ⟨(IntKind.u64.wrap (x13_1 - 1)), (IntKind.u64.wrap (x14_1 + (IntKind.u64.wrap (a3)))), aq, aq, H', ⟨by have := HK1.out; omega⟩, by repeat (first | exact Drawn0.refl _ | apply Drawn0.step)⟩
     ·rw [if_neg c9] at H
      have c9b0 : decide ((Go.bits .or .u64 (IntKind.u64.wrap (x14_1 * 4294967296)) (IntKind.u64.wrap (a2))) < (IntKind.u64.wrap (x13_1 * (IntKind.u64.wrap (a4))))) = false := decide_eq_false c9
      clear c9
      obtain rfl := Option.some.inj H
      go_wp2
      go_ret
      exact ⟨by first | rfl | (simp; done) | (simp [*]; done), by repeat (first | exact Drawn0.refl _ | apply Drawn0.step)⟩
    ·rw [if_neg c8] at H
     have c8b0 := decide_eq_false c8
     clear c8
     obtain rfl := Option.some.inj H
     go_wp2
     go_ret
     exact ⟨by first | rfl | (simp; done) | (simp [*]; done), by repeat (first | exact Drawn0.refl _ | apply Drawn0.step)⟩
end Go.Proofs.YtneepokiioefgaaGreatDoor.PNat
