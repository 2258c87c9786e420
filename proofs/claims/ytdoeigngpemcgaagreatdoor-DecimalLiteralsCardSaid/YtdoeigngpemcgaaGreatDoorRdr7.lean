/- Over any text the law DecimalLiterals answers true: the interpreter takes just the texts with digits and an exponent, and reads them as the document's own reader does; no condition. This is part 7 of 7: what the session's printing program wrote for the functions reached, and the session's own lemmas. -/
import Derived.Below
import Derived.Carry
import Derived.ChangeOld
import Derived.LaidOnce
import Derived.LaidSub
import Derived.Lay
import Derived.Lib.AppendIntMem
import Derived.Lib.LaidTab
import Derived.OpenShut
import Derived.ProofKit
import Derived.SevenTiedAt
import Derived.ShutString
import Derived.SizedLaws
import Derived.WalkKit
import Derived.Test.YtdoeigngpemcgaaGreatDoorCards
import Derived.Test.YtdoeigngpemcgaaGreatDoorRdr2
import Derived.Test.YtdoeigngpemcgaaGreatDoorRdr4
import Derived.Test.YtdoeigngpemcgaaGreatDoorRdr5
import Derived.Test.YtdoeigngpemcgaaGreatDoorRdr6
import Derived.Test.YtdoeigngpemcgaaGreatDoorRows
import Derived.Test.YtdoeigngpemcgaaGreatDoorTie
set_option maxHeartbeats 32000000
set_option linter.unusedVariables false
set_option linter.unusedSimpArgs false
namespace Go.Proofs.YtdoeigngpemcgaaGreatDoor.Dec
open Go.RowKit Go.Div Go.Proofs.YtdoeigngpemcgaaGreatDoor.PNat Go.Proofs.YtdoeigngpemcgaaGreatDoor.Pure Go.Proofs.YtdoeigngpemcgaaGreatDoorW.PrintWords Go.Proofs.YtdoeigngpemcgaaGreatDoorW.PrintLast Go.Proofs.YtdoeigngpemcgaaGreatDoorW.PrintMore
set_option maxRecDepth 100000 in
theorem r_Shl {w : World} {v : Value} {a : Nat} (h0 : Nm w v a) (fa : Fit a) (m : Nat) (hm0 : 0 < m) (hm : m ≤ 64000) (hf : Fit (a * 2 ^ m)) :
  Calls Tryz.prog 43 #[v, .int .i64 (m : Int)] w fun e w' => ∃ r, e = .returned (.tuple #[r, .int .i64 0]) ∧ Nm w' r (a * 2 ^ m) ∧ Below w.heap.size w w' := by
 have L0 := md_ (r_large h0 fa)
 have T0 := md_ (r_trimmed h0)
 obtain ⟨A, c, rfl, hlc, hC, _⟩ := h0.open
 obtain ⟨la, hla⟩ : ∃ l, Num.wordsN a = l := ⟨_, rfl⟩
 have hok := Num.wordsN_ok a
 have hval := Num.wordsN_val a
 have hlen : (Num.wordsN a).length ≤ 2000 := fa
 rw [hla] at hC hlc hok hval hlen L0 T0
 rw [hla]
 obtain ⟨n, hn⟩ : ∃ n, la.length = n := ⟨_, rfl⟩
 rw [hn] at hC hlc hlen L0 T0
 rw [hn]
 obtain ⟨q, hq⟩ : ∃ q, m / 32 = q := ⟨_, rfl⟩
 obtain ⟨r, hr⟩ : ∃ r, m % 32 = r := ⟨_, rfl⟩
 have hmr : 32 * q + r = m := by omega
 have HC := md_ hC
 have HOK := md_ hok
 have HN := md_ (show la.length = n ∧ n ≤ 2000 from ⟨hn, hlen⟩)
 have HV := md_ hval
 have HF := md_ hf
 have HQ := md_ (show q ≤ 2000 ∧ r < 32 ∧ 32 * q + r = m by omega)
 have HB := md_ (Below.refl w.heap.size w)
 obtain ⟨mv, hmv⟩ : ∃ z : Int, (m : Int) = z := ⟨_, rfl⟩
 have Z1 := wrp (x := (q : Int)) (y := (q : Int)) (by omega)
 have Z2 := wrp (x := (n : Int) + (q : Int)) (y := ((n + q : Nat) : Int)) (by omega)
 have Z3 := wrp (x := ((n + q : Nat) : Int) + 1) (y := ((n + q + 1 : Nat) : Int)) (by omega)
 obtain ⟨N, hN⟩ : ∃ z, n + q + 1 = z := ⟨_, rfl⟩
 rw [hN] at Z3
 obtain ⟨nq, hnq⟩ : ∃ z : Int, ((n + q : Nat) : Int) = z := ⟨_, rfl⟩
 rw [hnq] at Z2 Z3
 have HNN := md_ hN
 have x2 := decide_eq_false (show ¬ (64000 : Int) < mv by omega)
 have x3 := decide_eq_true (show (0 : Int) < mv by omega)
 have x4 : (0 : Int) ≤ (r : Int) := by omega
 have o1 : (0 : Int) ≤ (N : Int) := by omega
 have o2 : ((N : Int)).toNat ≤ 70368744177664 := by omega
 have p1 := decide_eq_true o1
 have p2 := decide_eq_true o2
 have z1 : mv.tdiv 32 = (q : Int) := by rw [← hmv, ← hq]; exact (Int.ofNat_tdiv _ _).symm
 have z2 : mv.tmod 32 = (r : Int) := by rw [← hmv, ← hr]; exact (Int.ofNat_tmod _ _).symm
 rw [hmv]
 clear h0 fa hla hok hval hlen hn hlc hC hm hm0 hq hr hmr hmv hf hN hnq
 obtain ⟨z3, z4⟩ := Z1.out
 obtain ⟨z5, z6⟩ := Z2.out
 obtain ⟨z7, z8⟩ := Z3.out
 clear Z1 Z2 Z3
 go_enter Tryz.func43, Tryz.ntmps43
 go_wp2_with (first
  | (go_at_call 100; (with_reducible refine L0.out.mono ?_); rintro e w' ⟨rfl, hw⟩; obtain rfl := hw.symm)
  | (go_at_call 101; (with_reducible refine T0.out.mono ?_); rintro e w' ⟨rfl, hw⟩; obtain rfl := hw.symm)
  | ((with_reducible refine gate_dst (N := 28) rfl ?_); refine Kd.R_make (Kd.int .u32) _ 35 rfl (N := 28) rfl 58 _ _ rfl (N : Int) rfl rfl Tryz.underlying58 (.int .u32 0) 4 info35 rfl (by decide) (by omega) 0 (ok := fun _ => True) (okp := fun _ => True) rfl (fun _ hk => hk) trivial o1 (Nat.le_trans (Nat.mul_le_mul_right _ o2) (by omega)) (Below.refl _ _) (Nat.le_refl _) ?_; intro vq wq ho hb hg_ hnew_; clear hg_ hnew_; have HO := md_ (Kd.R_lower ho (below_size HB.out)); have n1_ := md_ (below_step HB.out hb); clear HB; have HB := n1_; clear n1_; clear hb ho))
 rw [Int.toNat_natCast] at HO
 have HS0 := shl_start la q r
 rw [HN.out.1, HNN.out] at HS0
 go_loopg [7] n (fun kq v7 wr => ∃ (k : Nat) (x : List Int), v7 = .int .i64 (k : Int) ∧ Aside0 (k + kq = n) ∧ Aside0 (Shl la q r k x) ∧ Aside0 (Kd.R (Kd.int .u32) 35 wr w.heap.size (fun _ => True) vq x) ∧ Aside0 (Below w.heap.size w wr))
 case atStart => exact ⟨0, List.replicate N 0, rfl, ⟨Nat.zero_add n⟩, ⟨HS0⟩, HO, HB⟩
 case round =>
  clear HO HB HS0
  obtain ⟨k, x, rfl, HK, HS, HO, HB⟩ := hrel
  cases gk with
  | zero =>
   have hk : k = n := HK.out
   subst hk
   have hlx : x.length = N := by rw [HS.out.1, HN.out.1]; exact HNN.out
   have hvx : Num.valN x = a * 2 ^ m := by
    have h := HS.out
    rw [← HN.out.1] at h
    rw [shl_end h, HV.out, HQ.out.2.2]
   have HN1 := md_ (fun (wq : World) (hx : Kd.R (Kd.int .u32) 35 wq w.heap.size (fun _ => True) vq x) => r_NormV (V_of hx) HS.out.2.1 (by have := HNN.out; have := HN.out; have := HQ.out; omega))
   rw [hvx] at HN1
   have x5 := decide_eq_false (show ¬ (k : Int) < (k : Int) by omega)
   obtain ⟨L, hL⟩ : ∃ z, (Num.wordsN (a * 2 ^ m)).length = z := ⟨_, rfl⟩
   have hL2 := HF.out
   unfold Fit at hL2
   have HL := md_ hL
   rw [hL] at hL2
   have x6 := decide_eq_false (show ¬ (2000 : Int) < (L : Int) by omega)
   clear hlx hvx hL hL2
   go_wp2_with (go_at_call 99; (with_reducible refine (HN1.out _ HO.out).mono ?_); rintro e w' ⟨q1, rfl, hr, hb⟩; obtain ⟨Aq, cq, haq, -, -, -⟩ := hr.open; rw [HL.out] at haq; subst haq; have hq1 := md_ hr; replace HB := bt_ HB hb; clear hb hr)
   go_ret2
   exact ⟨_, rfl, hq1.out, HB.out⟩
  | succ i =>
   have hkn : k < n := by have := HK.out; omega
   have hil : k < la.length := by have := HN.out.1; omega
   have hlx : x.length = N := by rw [HS.out.1, HN.out.1]; exact HNN.out
   have hnn := HNN.out
   have hqq := HQ.out
   have hnl := HN.out
   obtain ⟨g7, g8⟩ := get_nat HOK.out hil
   obtain ⟨wi, hwi⟩ : ∃ z : Nat, (la[k]).toNat = z := ⟨_, rfl⟩
   rw [hwi] at g7 g8
   obtain ⟨ad, hA, hz0⟩ := Kd.at_int HC.out (k : Int) (by omega) (by omega)
   subst hA
   have hrd : rd la (k : Int) = (wi : Int) := by
    unfold rd
    rw [Int.toNat_natCast, List.getD_eq_getElem?_getD, List.getElem?_eq_getElem hil]
    exact g7.symm
   rw [hrd, Int.toNat_natCast] at hz0
   have hz := pw_cell_below HB.out hz0
   have i1 : k + q < x.length := by omega
   obtain ⟨z, hzz⟩ : ∃ z : Nat, (x[k + q]).toNat = z := ⟨_, rfl⟩
   obtain ⟨g1, g2⟩ := get_nat HS.out.2.1 i1
   rw [hzz] at g1 g2
   obtain ⟨X, hX⟩ : ∃ z : Nat, wi * 2 ^ r = z := ⟨_, rfl⟩
   obtain ⟨s1, s2, s3, s4⟩ := shl_step hil HOK.out hqq.2.1 HS.out (x := X) (z := z) (by rw [hwi]; exact hX) (fun _ => hzz)
   have i2 : k + q + 1 < x.length := by omega
   have hzero := HS.out.2.2.2.2 _ i2 (by omega)
   obtain ⟨go, co, rfl, gb, gl, cl, HG⟩ := Kd.R_form HO.out (by omega)
   obtain ⟨hx, hf⟩ := Kd.R_celln 0 HO.out ((k + q : Nat) : Int) (by omega) (by omega)
   have hr0 : rdOf 0 x ((k + q : Nat) : Int) = (z : Int) := by
    unfold rdOf
    rw [Int.toNat_natCast, List.getD_eq_getElem?_getD, List.getElem?_eq_getElem i1]
    exact g1.symm
   rw [hr0] at hx
   rw [Int.toNat_natCast] at hx hf
   have hsh := shl64 wi r (by omega)
   rw [hX, Nat.mod_eq_of_lt (by omega)] at hsh
   unfold shl at hsh
   rw [show IntKind.u64.bits = 64 from rfl, Int.toNat_natCast] at hsh
   have hlow0 : X % 4294967296 % 2 ^ r = 0 := by rw [← hX]; exact shl_low (by omega)
   have b1 : bits .or .u32 (z : Int) ((X % 4294967296 : Nat) : Int) = ((z + X % 4294967296 : Nat) : Int) := by
    rw [u32_or_nat _ _ (by omega) (by omega), Nat.or_comm, nat_join r _ _ hlow0 s3, Nat.add_comm]
   have b2 : bits .or .u32 0 ((X / 4294967296 : Nat) : Int) = ((X / 4294967296 : Nat) : Int) := by
    rw [show (0 : Int) = ((0 : Nat) : Int) from rfl, u32_or_nat _ _ (by omega) (by omega), Nat.zero_or]
   obtain ⟨K, hK⟩ : ∃ z, k + q = z := ⟨_, rfl⟩
   obtain ⟨K1, hK1⟩ : ∃ z, K + 1 = z := ⟨_, rfl⟩
   have W1 := wrp (x := (k : Int) + (q : Int)) (y := (K : Int)) (by omega)
   have W2 := wrp (x := (K : Int) + 1) (y := (K1 : Int)) (by omega)
   have W3 := wrp (x := (k : Int) + 1) (y := ((k + 1 : Nat) : Int)) (by omega)
   rw [hK] at hx hf s4 i1 i2
   rw [hK1] at s4 i2
   obtain ⟨y1, hy1⟩ : ∃ y : Int, ((z + X % 4294967296 : Nat) : Int) = y := ⟨_, rfl⟩
   obtain ⟨y2, hy2⟩ : ∃ y : Int, ((X / 4294967296 : Nat) : Int) = y := ⟨_, rfl⟩
   obtain ⟨xl, hxl⟩ : ∃ y : Int, ((X % 4294967296 : Nat) : Int) = y := ⟨_, rfl⟩
   obtain ⟨Xv, hXv⟩ : ∃ y : Int, ((X : Nat) : Int) = y := ⟨_, rfl⟩
   rw [hy1, hxl] at b1
   rw [hy1, hy2] at s4
   rw [hy2] at b2
   rw [hXv] at hsh
   have c1 : (0 : Int) ≤ (k : Int) := by omega
   have c2 : (k : Int) < (n : Int) := by omega
   have c3 : (0 : Int) ≤ (K : Int) := by omega
   have c4 : (K : Int) < (x.length : Int) := by omega
   have c5 : (0 : Int) ≤ (K1 : Int) := by omega
   have c6 : (K1 : Int) < (x.length : Int) := by omega
   have e1 : IntKind.u32.wrap Xv = xl := by rw [IntKind.wrap_u32]; omega
   have e2 : Xv % 4294967296 = xl := by omega
   have e3 : Xv / 4294967296 = y2 := by omega
   have e4 : IntKind.u32.wrap y2 = y2 := by rw [IntKind.wrap_u32]; omega
   have e5 : y2 % 4294967296 = y2 := by omega
   obtain ⟨wv, hwv⟩ : ∃ y : Int, (wi : Int) = y := ⟨_, rfl⟩
   have e6 : IntKind.u64.wrap wv = wv := by rw [IntKind.wrap_u64]; omega
   obtain ⟨zv, hzv⟩ : ∃ y : Int, (z : Int) = y := ⟨_, rfl⟩
   rw [hwv] at hsh hz
   rw [hzv] at hx b1
   have HP := md_ (Kd.R_putg HO.out (K : Int) y1)
   rw [Int.toNat_natCast] at HP
   have GB := md_ gb
   have HZ := md_ hzero
   have HK2 := md_ (show k + 1 + i = n by have := HK.out; omega)
   have HS2 := md_ s4
   have HKK := md_ (show K < x.length ∧ K1 < x.length ∧ K1 = K + 1 ∧ k + q = K ∧ K ≠ K1 by omega)
   clear hkn hil hlx hnn hqq hnl g7 g8 hwi hrd hz0 g1 g2 hzz hX s1 s2 s3 s4 i1 i2 hzero gb gl cl HG hr0 hlow0 hK hK1 hy1 hy2 hxl hXv hwv hzv HK HS
   obtain ⟨w1, w2⟩ := W1.out
   obtain ⟨w3, w4⟩ := W2.out
   obtain ⟨w5, w6⟩ := W3.out
   clear W1 W2 W3
   go_upto_region 11 with (fail)
   have HO2 := HP.out.1
   have HB2 := below_set HB.out (v := .int .u32 y1) (j := K) GB.out
   generalize hW : World.setCell _ _ _ = w6 at HO2 HB2 ⊢
   obtain ⟨hx2, hf2⟩ := Kd.R_celln 0 HO2 (K1 : Int) c5 c6
   have hr2 : rdOf 0 (x.set K y1) (K1 : Int) = 0 := by
    have hk := HKK.out
    unfold rdOf
    rw [Int.toNat_natCast, List.getD_eq_getElem?_getD, List.getElem?_eq_getElem (by rw [List.length_set]; exact hk.2.1)]
    show (x.set K y1)[K1]'_ = 0
    rw [List.getElem_set_ne hk.2.2.2.2]
    have := HZ.out
    simp only [hk.2.2.2.1, ← hk.2.2.1] at this
    exact this
   rw [hr2] at hx2
   rw [Int.toNat_natCast] at hx2 hf2
   have HP2 := md_ (Kd.R_putg HO2 (K1 : Int) y2)
   rw [Int.toNat_natCast] at HP2
   have HB3 := md_ HB2
   clear hr2 HO2 HB2 HP HZ HKK HB HO hx hf hW
   go_wp2
   go_roundg i
   case measure => omega
   case rel => exact ⟨k + 1, (x.set K y1).set K1 y2, by first | rfl | rw [w5] | rw [w6], HK2, HS2, ⟨HP2.out.1⟩, ⟨below_set HB3.out GB.out⟩⟩
set_option maxRecDepth 100000 in
theorem r_Shr {w : World} {v : Value} {a : Nat} (h0 : Nm w v a) (fa : Fit a) (m : Nat) (hm : m < 64000) :
  Calls Tryz.prog 43 #[v, .int .i64 (-(m : Int))] w fun e w' => ∃ r, e = .returned (.tuple #[r, .int .i64 0]) ∧ Nm w' r (a / 2 ^ m) ∧ Below w.heap.size w w' := by
 have L0 := md_ (r_large h0 fa)
 have T0 := md_ (r_trimmed h0)
 obtain ⟨A, c, rfl, hlc, hC, _⟩ := h0.open
 obtain ⟨la, hla⟩ : ∃ l, Num.wordsN a = l := ⟨_, rfl⟩
 have hok := Num.wordsN_ok a
 have hval := Num.wordsN_val a
 have hlen : (Num.wordsN a).length ≤ 2000 := fa
 rw [hla] at hC hlc hok hval hlen L0 T0
 rw [hla]
 obtain ⟨n, hn⟩ : ∃ n, la.length = n := ⟨_, rfl⟩
 rw [hn] at hC hlc hlen L0 T0
 rw [hn]
 obtain ⟨q, hq⟩ : ∃ q, m / 32 = q := ⟨_, rfl⟩
 obtain ⟨r, hr⟩ : ∃ r, m % 32 = r := ⟨_, rfl⟩
 have hmr : 32 * q + r = m := by omega
 have HC := md_ hC
 have HOK := md_ hok
 have HN := md_ (show la.length = n ∧ n ≤ 2000 from ⟨hn, hlen⟩)
 have HV := md_ hval
 have HQ := md_ (show q ≤ 2000 ∧ r < 32 ∧ 32 * q + r = m by omega)
 have HB := md_ (Below.refl w.heap.size w)
 obtain ⟨mm, hmm⟩ : ∃ z : Int, (m : Int) = z := ⟨_, rfl⟩
 obtain ⟨mv, hmv⟩ : ∃ z : Int, -(m : Int) = z := ⟨_, rfl⟩
 have Z1 := wrp (x := (q : Int)) (y := (q : Int)) (by omega)
 have Z2 := wrp (x := -mv) (y := mm) (by omega)
 have x2 := decide_eq_false (show ¬ (64000 : Int) < mv by omega)
 have x3 := decide_eq_false (show ¬ (0 : Int) < mv by omega)
 have x5 := decide_eq_false (show ¬ mv ≤ -64000 by omega)
 have x4 : (0 : Int) ≤ (r : Int) := by omega
 have z1 : mm.tdiv 32 = (q : Int) := by rw [← hmm, ← hq]; exact (Int.ofNat_tdiv _ _).symm
 have z2 : mm.tmod 32 = (r : Int) := by rw [← hmm, ← hr]; exact (Int.ofNat_tmod _ _).symm
 rw [hmv]
 clear h0 fa hla hok hval hlen hn hlc hC hm hq hr hmr hmv hmm
 obtain ⟨z3, z4⟩ := Z1.out
 obtain ⟨z5, z6⟩ := Z2.out
 clear Z1 Z2
 go_enter Tryz.func43, Tryz.ntmps43
 go_wp2_with (first
  | (go_at_call 100; (with_reducible refine L0.out.mono ?_); rintro e w' ⟨rfl, hw⟩; obtain rfl := hw.symm)
  | (go_at_call 101; (with_reducible refine T0.out.mono ?_); rintro e w' ⟨rfl, hw⟩; obtain rfl := hw.symm))
 go_loopg [9, 10] n (fun kq v9 v10 wr => ∃ (k j : Nat) (x : List Int), v10 = .int .i64 (j : Int) ∧ Aside0 (q + k = j ∧ n ≤ kq + j ∧ k ≤ 2000 ∧ j ≤ 4000) ∧ Aside0 (Shr la q r k x) ∧ Aside0 (Kd.R (Kd.int .u32) 35 wr w.heap.size (fun _ => True) v9 x) ∧ Aside0 (Below w.heap.size w wr))
 case atStart => exact ⟨0, q, [], rfl, ⟨rfl, by omega, by omega, by have := HQ.out; omega⟩, ⟨shr_start la q r⟩, ⟨Kd.R_nil _ _ _ _ _⟩, HB⟩
 case round =>
  clear HB
  obtain ⟨k, j, x, rfl, HK, HS, HO, HB⟩ := hrel
  by_cases hjn : n ≤ j
  ·have hvx : Num.valN x = a / 2 ^ m := by
    have h := HK.out
    rw [shr_end HOK.out HS.out (by have := HN.out; omega), HV.out, HQ.out.2.2]
   have HN1 := md_ (fun (wq : World) (vv : Value) (hx : Kd.R (Kd.int .u32) 35 wq w.heap.size (fun _ => True) vv x) => r_NormV (V_of hx) HS.out.2.1 (by have := HS.out.1; have := HK.out; omega))
   rw [hvx] at HN1
   have c1 := decide_eq_false (show ¬ j < n by omega)
   clear hvx hjn
   go_wp2_with (go_at_call 99; (with_reducible refine (HN1.out _ _ HO.out).mono ?_); rintro e w' ⟨q1, rfl, hr, hb⟩; have hq1 := md_ hr; replace HB := bt_ HB hb; clear hb hr)
   go_ret2
   exact ⟨_, rfl, hq1.out, HB.out⟩
  ·have hil : j < la.length := by have := HN.out.1; omega
   have hkk := HK.out
   have hqq := HQ.out
   have hnl := HN.out
   obtain ⟨g7, g8⟩ := get_nat HOK.out hil
   obtain ⟨wi, hwi⟩ : ∃ z : Nat, (la[j]).toNat = z := ⟨_, rfl⟩
   have h2w := two_words HOK.out hil
   rw [hwi] at g7 g8 h2w
   obtain ⟨ad, hA, hz0⟩ := Kd.at_int HC.out (j : Int) (by omega) (by omega)
   subst hA
   have hrd : rd la (j : Int) = (wi : Int) := by
    unfold rd
    rw [Int.toNat_natCast, List.getD_eq_getElem?_getD, List.getElem?_eq_getElem hil]
    exact g7.symm
   rw [hrd, Int.toNat_natCast] at hz0
   have hz := pw_cell_below HB.out hz0
   obtain ⟨wn, hwn⟩ : ∃ z : Nat, (la[j + 1]?.getD 0).toNat = z := ⟨_, rfl⟩
   rw [hwn] at h2w
   obtain ⟨X, hX⟩ : ∃ z : Nat, wi + 4294967296 * wn = z := ⟨_, rfl⟩
   rw [hX] at h2w
   have hst := shr_step HOK.out (r := r) (by omega) HS.out (x := X) (by rw [hkk.1]; exact h2w)
   have g9 : wn < 4294967296 := by
    rw [← hwn]
    rcases Nat.lt_or_ge (j + 1) la.length with c | c
    ·rw [List.getElem?_eq_getElem c]
     exact (get_nat HOK.out c).2
    ·rw [List.getElem?_eq_none c]
     decide
   have hsh := shr64 X r (by omega)
   unfold shr at hsh
   rw [show IntKind.u64.bits = 64 from rfl, Int.toNat_natCast] at hsh
   obtain ⟨yv, hyv⟩ : ∃ z : Int, ((X / 2 ^ r % 4294967296 : Nat) : Int) = z := ⟨_, rfl⟩
   obtain ⟨sv, hsv⟩ : ∃ z : Int, ((X / 2 ^ r : Nat) : Int) = z := ⟨_, rfl⟩
   have e1 : IntKind.u32.wrap sv = yv := by rw [IntKind.wrap_u32]; omega
   have e2 : sv % 4294967296 = yv := by omega
   rw [hyv] at hst
   rw [hsv] at hsh
   have W1 := wrp (x := (j : Int) + 1) (y := ((j + 1 : Nat) : Int)) (by omega)
   have c1 : (0 : Int) ≤ (j : Int) := by omega
   have c2 : (j : Int) < (n : Int) := by omega
   have c3 : j < n := by omega
   obtain ⟨wv, hwv⟩ : ∃ y : Int, (wi : Int) = y := ⟨_, rfl⟩
   have e6 : IntKind.u64.wrap wv = wv := by rw [IntKind.wrap_u64]; omega
   have HS1 := md_ (show x.length ≤ 2000 by have := HS.out.1; omega)
   have HST := md_ hst
   have HK2 := md_ (show q + (k + 1) = j + 1 ∧ n ≤ gk - 1 + (j + 1) ∧ k + 1 ≤ 2000 ∧ j + 1 ≤ 4000 ∧ gk - 1 < gk by omega)
   by_cases hj1 : j + 1 < n
   ·have hn2 : (la[j + 1]?.getD 0) = (wn : Int) := by
     rw [List.getElem?_eq_getElem (show j + 1 < la.length by omega)] at hwn ⊢
     have := (get_nat HOK.out (show j + 1 < la.length by omega)).1
     show la[j + 1] = _
     rw [← this]
     congr 1
    have hz3 := Kd.foot_int HC.out ((j + 1 : Nat) : Int) (by omega) (by omega)
    have hrd2 : rd la ((j + 1 : Nat) : Int) = (wn : Int) := by
     unfold rd
     rw [Int.toNat_natCast, List.getD_eq_getElem?_getD]
     exact hn2
    rw [hrd2, Int.toNat_natCast] at hz3
    have hz4 := pw_cell_below HB.out hz3
    obtain ⟨nv, hnv⟩ : ∃ y : Int, (wn : Int) = y := ⟨_, rfl⟩
    obtain ⟨Xv, hXv⟩ : ∃ y : Int, (X : Int) = y := ⟨_, rfl⟩
    have b1 : bits .or .u64 wv (nv * 4294967296) = Xv := by
     rw [← hwv, ← hnv, show (wn : Int) * 4294967296 = ((wn * 4294967296 : Nat) : Int) by omega, u64_or_nat _ _ (by omega) (by omega), ← hXv, ← hX, Nat.or_comm]
     congr 1
     have p32 : (2 : Nat) ^ 32 = 4294967296 := rfl
     rw [nat_join 32 (wn * 4294967296) wi (by rw [p32]; exact Nat.mul_mod_left _ _) (by rw [p32]; exact g8)]
     omega
    have e7 : IntKind.u64.wrap nv = nv := by rw [IntKind.wrap_u64]; omega
    have e8 : IntKind.u64.wrap (nv * 4294967296) = nv * 4294967296 := by rw [IntKind.wrap_u64]; omega
    obtain ⟨J, hJ⟩ : ∃ z, j + 1 = z := ⟨_, rfl⟩
    have c4 : (0 : Int) ≤ (J : Int) := by omega
    have c5 : (J : Int) < (n : Int) := by omega
    have c6 : J < n := by omega
    rw [hJ] at hz4 W1 HK2
    rw [hwv] at hz
    rw [hnv] at hz4
    rw [hXv] at hsh
    clear hjn hil hkk hqq hnl g7 g8 hwi h2w hz0 hrd hwn hX hst g9 hyv hsv hwv HK HS hj1 hn2 hz3 hrd2 hnv hXv hJ
    obtain ⟨w1, w2⟩ := W1.out
    clear W1
    go_wp2_with (first
    | ((with_reducible refine gate_builtin (b := .append) (xs := #[.tmp 115, .tmp 121]) rfl ?_); at_builtin; refine Kd.R_append_rows (Kd.int .u32) (w0 := w) w.heap.size rfl (.tmp 115) (.tmp 121) 58 35 (.int .u32 0) 4 rfl Tryz.underlying58 info35 rfl (by decide) (by omega) _ x ([yv] : List Int) _ _ _ (fun _ => True) (fun _ => False) rfl rfl ?aO ?aR (fun _ _ h => h) (fun _ h => h.elim) ?aF ?aB ?aS ?aL ?_; (case aR => exact (Kd.V_reads' (one_V wr yv)).2.2); (case aB => exact below_alloc HB.out _); (case aF => exact (fun _ _ => trivial)); (case aO => exact Kd.R_alloc HO.out _); (case aS => exact below_size (below_alloc HB.out _)); (case aL => have := HS1.out; show (_ + 1) * 4 ≤ _; omega); intro v1 w5 ho hb hg hat; have HO2 := md_ ho; have HB2 := md_ hb; clear ho hb hg hat))
    go_roundg (gk - 1)
    case measure => exact HK2.out.2.2.2.2
    case rel => exact ⟨k + 1, J, x ++ [yv], by first | rfl | rw [w1] | rw [w2], ⟨HK2.out.1, HK2.out.2.1, HK2.out.2.2.1, HK2.out.2.2.2.1⟩, HST, HO2, HB2⟩
   ·have hwn0 : wn = 0 := by
     rw [← hwn, List.getElem?_eq_none (by omega)]
     rfl
    have hXw : (X : Int) = wv := by omega
    rw [hXw] at hsh
    rw [hwv] at hz
    obtain ⟨J, hJ⟩ : ∃ z, j + 1 = z := ⟨_, rfl⟩
    have c6 := decide_eq_false (show ¬ J < n by omega)
    rw [hJ] at W1 HK2
    clear hjn hil hkk hqq hnl g7 g8 hwi h2w hz0 hrd hwn hX hst g9 hyv hsv hwv HK HS hj1 hwn0 hXw hJ
    obtain ⟨w1, w2⟩ := W1.out
    clear W1
    go_wp2_with (first
    | ((with_reducible refine gate_builtin (b := .append) (xs := #[.tmp 115, .tmp 121]) rfl ?_); at_builtin; refine Kd.R_append_rows (Kd.int .u32) (w0 := w) w.heap.size rfl (.tmp 115) (.tmp 121) 58 35 (.int .u32 0) 4 rfl Tryz.underlying58 info35 rfl (by decide) (by omega) _ x ([yv] : List Int) _ _ _ (fun _ => True) (fun _ => False) rfl rfl ?aO ?aR (fun _ _ h => h) (fun _ h => h.elim) ?aF ?aB ?aS ?aL ?_; (case aR => exact (Kd.V_reads' (one_V wr yv)).2.2); (case aB => exact below_alloc HB.out _); (case aF => exact (fun _ _ => trivial)); (case aO => exact Kd.R_alloc HO.out _); (case aS => exact below_size (below_alloc HB.out _)); (case aL => have := HS1.out; show (_ + 1) * 4 ≤ _; omega); intro v1 w5 ho hb hg hat; have HO2 := md_ ho; have HB2 := md_ hb; clear ho hb hg hat))
    go_roundg (gk - 1)
    case measure => exact HK2.out.2.2.2.2
    case rel => exact ⟨k + 1, J, x ++ [yv], by first | rfl | rw [w1] | rw [w2], ⟨HK2.out.1, HK2.out.2.1, HK2.out.2.2.1, HK2.out.2.2.2.1⟩, HST, HO2, HB2⟩
end Go.Proofs.YtdoeigngpemcgaaGreatDoor.Dec
namespace Go.Proofs.YtdoeigngpemcgaaGreatDoor.Dec
open Go.RowKit Go.Flt Go.Read Go.Proofs.YtdoeigngpemcgaaGreatDoor.PDec Go.Proofs.YtdoeigngpemcgaaGreatDoor.Pure Go.Proofs.YtdoeigngpemcgaaGreatDoorW.PrintWords Go.Proofs.YtdoeigngpemcgaaGreatDoorW.PrintLast Go.Proofs.YtdoeigngpemcgaaGreatDoorW.PrintMore
theorem fit_ten {k : Nat} (h : k ≤ 1600) : Fit (10 ^ k) := fit_lt (ten_lt k) (by omega)
set_option maxRecDepth 100000 in
theorem r4_Power (w : World) (n : Int) (hn : n ≤ 1500) : Calls Tryz.prog 81 #[.int .i64 n] w fun e w' => ∃ r, e = .returned r ∧ Nm w' r (10 ^ n.toNat) ∧ Below w.heap.size w w' := by
 have HO : Aside0 (∀ w, Calls Tryz.prog 42 #[.int .u64 1] w fun e w' => ∃ r, e = .returned r ∧ Nm w' r 1 ∧ Below w.heap.size w w') := ⟨fun w => r_Of w 1 (by decide)⟩
 have HT : Aside0 (∀ w, Calls Tryz.prog 42 #[.int .u64 10] w fun e w' => ∃ r, e = .returned r ∧ Nm w' r 10 ∧ Below w.heap.size w w') := ⟨fun w => r_Of w 10 (by decide)⟩
 have HM := md_ (fun (i : Nat) (hi : i ≤ 1500) (w : World) (v u : Value) (h : Nm w v (10 ^ i)) (k : Nm w u 10) => r_Mul h k (fit_ten (by omega)) (fit_lt (b := 4) (by decide) (by omega)) (show Fit (10 ^ (i + 1)) from fit_ten (by omega)))
 have HB := md_ (Below.refl w.heap.size w)
 have HNN := md_ hn
 clear hn
 go_enter Tryz.func81, Tryz.ntmps81
 go_wp2_with (go_at_call 42; (with_reducible refine (HO.out _).mono ?_); rintro e w' ⟨r, rfl, hr, hb⟩; have hr' := md_ hr; replace HB := bt_ HB hb; clear hb hr)
 go_loopg [3, 4] n.toNat (fun kq v3 v4 wr => ∃ (i : Nat), v4 = .int .i64 (i : Int) ∧ Aside0 (i + kq = n.toNat) ∧ Aside0 (Nm wr v3 (10 ^ i)) ∧ Aside0 (Below w.heap.size w wr))
 case atStart => exact ⟨0, rfl, ⟨by omega⟩, hr', HB⟩
 case round =>
  clear HB hr'
  obtain ⟨i, rfl, HQ, HV, HB⟩ := hrel
  by_cases hlt : (i : Int) < n
  ·have c1 := decide_eq_true hlt
   obtain ⟨j, rfl⟩ : ∃ j, gk = j + 1 := ⟨gk - 1, by have := HQ.out; omega⟩
   have HQ2 := md_ (show i + 1 + j = n.toNat by have := HQ.out; omega)
   have q1 : wrap64 ((i : Int) + 1) = ((i + 1 : Nat) : Int) := by have := HNN.out; rw [i64_id (by omega) (by omega)]; omega
   have q2 : IntKind.i64.wrap ((i : Int) + 1) = ((i + 1 : Nat) : Int) := (i64_w _).trans q1
   have HMi := md_ (HM.out i (by have := HNN.out; omega))
   clear hlt
   go_wp2_with (first | (go_at_call 42; (with_reducible refine (HT.out _).mono ?_); rintro e w' ⟨r, rfl, hr, hb⟩; have hr2 := md_ hr; replace HV := md_ (HV.out.below hb); replace HB := bt_ HB hb; clear hb hr) | (go_at_call 80; (refine (HMi.out _ _ _ HV.out hr2.out).mono ?_); rintro e w' ⟨r3, rfl, hr, hb⟩; have hr3 := md_ hr; replace HB := bt_ HB hb; clear hb hr))
   go_roundg j
   case measure => omega
   case rel => exact ⟨i + 1, by first | rfl | (rw [q1]) | (rw [q2]), HQ2, ⟨by rw [Nat.pow_succ]; exact hr3.out⟩, HB⟩
  ·have c1 := decide_eq_false hlt
   have hi : i = n.toNat := by have := HQ.out; omega
   subst hi
   clear hlt
   go_wp2
   go_ret
   exact ⟨_, rfl, HV.out, HB.out⟩
end Go.Proofs.YtdoeigngpemcgaaGreatDoor.Dec
namespace Go.Flt
end Go.Flt
namespace Go.Proofs.YtdoeigngpemcgaaGreatDoor.Dec
open Go.RowKit Go.Flt Go.Proofs.YtdoeigngpemcgaaGreatDoor.Pure Go.Proofs.YtdoeigngpemcgaaGreatDoorW.PrintWords Go.Proofs.YtdoeigngpemcgaaGreatDoorW.PrintLast Go.Proofs.YtdoeigngpemcgaaGreatDoorW.PrintMore
theorem low_par (q : Nat) : bits .and .u64 ((q % 18446744073709551616 : Nat) : Int) 1 = ((q % 2 : Nat) : Int) := by
 rw [show (1 : Int) = ((1 : Nat) : Int) from rfl, u64_and_nat _ _ (Nat.mod_lt _ (by decide)) (by decide), Nat.and_one_is_mod]
 omega
end Go.Proofs.YtdoeigngpemcgaaGreatDoor.Dec
namespace Go.Proofs.YtdoeigngpemcgaaGreatDoor.Dec
open Go.RowKit Go.Flt Go.Read Go.Proofs.YtdoeigngpemcgaaGreatDoor.Pure Go.Proofs.YtdoeigngpemcgaaGreatDoorW.PrintWords Go.Proofs.YtdoeigngpemcgaaGreatDoorW.PrintLast Go.Proofs.YtdoeigngpemcgaaGreatDoorW.PrintMore
theorem r_Sh {w : World} {v : Value} {a : Nat} (h0 : Nm w v a) (fa : Fit a) (m : Int) (hm0 : 0 ≤ m) (hm : m ≤ 63000) (hf : Fit (a * 2 ^ m.toNat)) :
  Calls Tryz.prog 43 #[v, .int .i64 m] w fun e w' => ∃ r, e = .returned (.tuple #[r, .int .i64 0]) ∧ Nm w' r (a * 2 ^ m.toNat) ∧ Below w.heap.size w w' := by
 obtain ⟨n, rfl⟩ : ∃ n : Nat, m = n := ⟨m.toNat, by omega⟩
 rw [Int.toNat_natCast] at hf ⊢
 rcases Nat.eq_zero_or_pos n with z | z
 ·subst z
  have h := r_Shr h0 fa 0 (by omega)
  rw [Nat.pow_zero, Nat.div_one] at h
  rw [Nat.pow_zero, Nat.mul_one]
  exact h
 ·exact r_Shl h0 fa n z (by omega) hf
end Go.Proofs.YtdoeigngpemcgaaGreatDoor.Dec
namespace Go.Flt
open Go.Num
def rndR (m : Nat) (e : Int) : Nat × Int := if keep m e = 9007199254740992 ∧ e < expo m e then (4503599627370496, expo m e + 1) else (keep m e, expo m e)
def patR (v : Nat) (x : Int) : Nat := if 971 < x then 9218868437227405312 else if v < 4503599627370496 then v else (x + 1075).toNat * 4503599627370496 + v % 4503599627370496
theorem pat_mk {m : Nat} (hm : 0 < m) (e : Int) : patR (rndR m e).1 (rndR m e).2 = mkN m e := by
 rw [mkN_keep (by omega)]
 have h1 := keep_le hm e
 have h2 : -1074 < expo m e → 4503599627370496 ≤ keep m e := keep_ge hm
 have h3 := expo_ge m e
 have h4 : expo m e ≤ e → keep m e = 9007199254740992 → False := by
  intro h k
  unfold keep at k
  rw [if_pos h] at k
  have hb : bitsN m + (e - expo m e).toNat ≤ 53 := by
   unfold expo at h ⊢
   omega
  have h5 := bitsN_lt m
  have h6 : m * 2 ^ (e - expo m e).toNat < 2 ^ (bitsN m + (e - expo m e).toNat) := by
   rw [Nat.pow_add]
   exact Nat.mul_lt_mul_of_pos_right h5 (Nat.two_pow_pos _)
  have h7 : 2 ^ (bitsN m + (e - expo m e).toNat) ≤ 2 ^ 53 := Nat.pow_le_pow_right (by decide) hb
  omega
 unfold rndR
 generalize keep m e = v at *
 generalize expo m e = x at *
 by_cases c : v = 9007199254740992 ∧ e < x
 ·rw [if_pos c]
  unfold patR
  show (if 971 < x + 1 then _ else if 4503599627370496 < 4503599627370496 then _ else _) = _
  obtain ⟨rfl, _⟩ := c
  by_cases c1 : 971 < x + 1
  ·rw [if_pos c1]; omega
  ·rw [if_neg c1, if_neg (by omega)]; omega
 ·rw [if_neg c]
  unfold patR
  show (if 971 < x then _ else if v < 4503599627370496 then v else _) = _
  have hv : v ≠ 9007199254740992 := fun h => by
   rcases Int.lt_or_le e x with k | k
   ·exact c ⟨h, k⟩
   ·exact h4 k h
  by_cases c1 : 971 < x
  ·rw [if_pos c1]; omega
  ·rw [if_neg c1]
   by_cases c2 : v < 4503599627370496
   ·rw [if_pos c2]
    have : x = -1074 := by omega
    subst this
    rw [show ((-1074 : Int) + 1074).toNat = 0 from rfl, Nat.zero_mul]
    omega
   ·rw [if_neg c2]
    omega
theorem rne_cut (m t : Nat) : rne m (t + 1) = if 2 ^ t < m % 2 ^ (t + 1) ∨ (m % 2 ^ (t + 1) = 2 ^ t ∧ m / 2 ^ (t + 1) % 2 = 1) then m / 2 ^ (t + 1) + 1 else m / 2 ^ (t + 1) := by
 unfold rne
 have h : 2 ^ (t + 1) = 2 * 2 ^ t := by rw [Nat.pow_succ, Nat.mul_comm]
 generalize m / 2 ^ (t + 1) = q
 generalize m % 2 ^ (t + 1) = r
 rw [h]
 congr 1
 rw [eq_iff_iff]
 omega
end Go.Flt
namespace Go.Proofs.YtdoeigngpemcgaaGreatDoor.Dec
open Go.RowKit Go.Flt Go.Read Go.Proofs.YtdoeigngpemcgaaGreatDoor.PDec Go.Proofs.YtdoeigngpemcgaaGreatDoor.Pure Go.Proofs.YtdoeigngpemcgaaGreatDoorW.PrintWords Go.Proofs.YtdoeigngpemcgaaGreatDoorW.PrintLast Go.Proofs.YtdoeigngpemcgaaGreatDoorW.PrintMore
set_option maxRecDepth 100000 in
theorem r3_round (w : World) {v : Value} (m : Nat) (hv : Nm w v m) (hm : 0 < m) (hb : Num.bitsN m ≤ 31000) (e : Int) (he : -33000 ≤ e) (he2 : e ≤ 2000) :
  Calls Tryz.prog 132 #[v, .int .i64 e, .int .i64 53, .int .i64 (-1074), .int .i64 971] w fun x w' => x = .returned (.tuple #[.int .u64 ((rndR m e).1 : Int), .int .i64 (rndR m e).2, .bool (decide (971 < (rndR m e).2))]) ∧ Below w.heap.size w w' := by
 have fm : Fit m := fit_lt (Num.bitsN_lt m) (by omega)
 have HN := md_ (r_Bits hv fm)
 have HV := md_ hv
 have hk := keep_le hm e
 have hX : expo m e = max ((Num.bitsN m : Int) + e - 53) (-1074) := rfl
 obtain ⟨n, hn⟩ : ∃ z : Int, ((Num.bitsN m : Nat) : Int) = z := ⟨_, rfl⟩
 rw [hn] at HN hX
 obtain ⟨c1, hc1⟩ : ∃ z : Int, n - 53 = z := ⟨_, rfl⟩
 obtain ⟨s1, hs1⟩ : ∃ z : Int, e + c1 = z := ⟨_, rfl⟩
 obtain ⟨X, hXX⟩ : ∃ z : Int, expo m e = z := ⟨_, rfl⟩
 obtain ⟨c, hc⟩ : ∃ z : Int, X - e = z := ⟨_, rfl⟩
 obtain ⟨nc, hnc⟩ : ∃ z : Int, -c = z := ⟨_, rfl⟩
 rw [hXX] at hX
 have W1 := wrp (x := n - 53) (y := c1) (by omega)
 have W2 := wrp (x := e + c1) (y := s1) (by omega)
 have hcase : (decide (s1 < -1074) = true ∧ wrap64 (-1074 - e) = c ∧ IntKind.i64.wrap (-1074 - e) = c) ∨ (decide (s1 < -1074) = false ∧ c1 = c ∧ s1 = X) := by
  by_cases h : s1 < -1074
  ·obtain ⟨a1, a2⟩ := (wrp (x := -1074 - e) (y := c) (by omega)).out
   exact .inl ⟨decide_eq_true h, a1, a2⟩
  ·exact .inr ⟨decide_eq_false h, by omega, by omega⟩
 have W4 := wrp (x := -c) (y := nc) (by omega)
 have W5 := wrp (x := e + c) (y := X) (by omega)
 have HB := md_ (Below.refl w.heap.size w)
 by_cases h0 : c ≤ 0
 ·have d0 := decide_eq_true h0
  have hkk : keep m e = m * 2 ^ nc.toNat := by
   unfold keep
   rw [if_pos (by omega), hXX, show e - X = nc by omega]
  have hr : rndR m e = (m * 2 ^ nc.toNat, X) := by
   unfold rndR
   rw [if_neg (by omega), hkk, hXX]
  rw [hr]
  rw [hkk] at hk
  have fk : Fit (m * 2 ^ nc.toNat) := fit_lt (b := 54) (by omega) (by omega)
  have HS := md_ (r_Sh hv fm nc (by omega) (by omega) fk)
  have HS := md_ (fun (w : World) (h : Nm w v m) => r_Sh h fm nc (by omega) (by omega) fk)
  have HL := md_ (fun (w : World) (u : Value) (h : Nm w u (m * 2 ^ nc.toNat)) => r_Low h fk)
  obtain ⟨K, hK⟩ : ∃ z : Nat, m * 2 ^ nc.toNat = z := ⟨_, rfl⟩
  rw [hK] at HS HL hk
  rw [hK]
  rw [Nat.mod_eq_of_lt (by omega)] at HL
  obtain ⟨b, hb1⟩ : ∃ z, decide (971 < X) = z := ⟨_, rfl⟩
  rw [hb1]
  clear hv hm hb he he2 fm hX hn hc1 hs1 hXX hc hnc h0 hkk hr hk fk hK
  obtain ⟨w1, x1⟩ := W1.out
  obtain ⟨w2, x2⟩ := W2.out
  obtain ⟨w4, x4⟩ := W4.out
  obtain ⟨w5, x5⟩ := W5.out
  clear W1 W2 W4 W5
  rcases hcase with ⟨d1, w3, x3⟩ | ⟨d1, rfl, rfl⟩ <;> (
   go_enter Tryz.func132, Tryz.ntmps132
   go_wp2_with (first
    | (go_at_call 44; (with_reducible refine HN.out.mono ?_); rintro q w' ⟨rfl, hb⟩; have k_HV := md_ (HV.out.below hb); clear HV; have HV := k_HV; clear k_HV; replace HB := bt_ HB hb; clear hb)
    | (go_at_call 43; (with_reducible refine (HS.out _ HV.out).mono ?_); rintro q w' ⟨u, rfl, hr, hb⟩; replace HB := bt_ HB hb; have HU := md_ hr; clear hr; clear hb)
    | (go_at_call 105; (with_reducible refine (HL.out _ _ HU.out).mono ?_); rintro q w' ⟨rfl, hw⟩; obtain rfl := hw.symm))
   go_ret3
   exact ⟨by first | rfl | (rw [hb1] <;> rfl), HB.out⟩)
 ·have d0 := decide_eq_false h0
  obtain ⟨t, ht⟩ : ∃ t : Nat, c = ((t + 1 : Nat) : Int) := ⟨c.toNat - 1, by omega⟩
  have hkk : keep m e = rne m (t + 1) := by
   unfold keep
   rw [if_neg (by omega), hXX, show (X - e).toNat = t + 1 by omega]
  rw [rne_cut] at hkk
  have hnc2 : nc = -((t + 1 : Nat) : Int) := by omega
  have HS1 := md_ (fun (w : World) (h : Nm w v m) => r_Shr h fm (t + 1) (by omega))
  rw [← hnc2] at HS1
  have fq : Fit (m / 2 ^ (t + 1)) := fit_le fm (Nat.div_le_self _ _)
  have hback : m / 2 ^ (t + 1) * 2 ^ (t + 1) ≤ m := Nat.div_mul_le_self _ _
  have hrest : m - m / 2 ^ (t + 1) * 2 ^ (t + 1) = m % 2 ^ (t + 1) := by
   have := Nat.div_add_mod m (2 ^ (t + 1))
   rw [Nat.mul_comm] at this
   omega
  have fb : Fit (m / 2 ^ (t + 1) * 2 ^ (t + 1)) := fit_le fm hback
  have HS2 := md_ (fun (w : World) (u : Value) (h : Nm w u (m / 2 ^ (t + 1))) => r_Sh h fq c (by omega) (by omega) (by rw [ht, Int.toNat_natCast]; exact fb))
  rw [show c.toNat = t + 1 by omega] at HS2
  have HS3 := md_ (fun (w : World) (u : Value) (h : Nm w v m) (g : Nm w u (m / 2 ^ (t + 1) * 2 ^ (t + 1))) => r_Sub h g fm fb hback)
  rw [hrest] at HS3
  have HO : Aside0 (∀ w, Calls Tryz.prog 42 #[.int .u64 1] w fun e w' => ∃ r, e = .returned r ∧ Nm w' r 1 ∧ Below w.heap.size w w') := ⟨fun w => r_Of w 1 (by decide)⟩
  obtain ⟨cm, hcm⟩ : ∃ z : Int, c - 1 = z := ⟨_, rfl⟩
  have W6 := wrp (x := c - 1) (y := cm) (by omega)
  have d6 := decide_eq_false (show ¬ 63000 < cm by omega)
  have fh : Fit (2 ^ t) := fit_lt (b := t + 1) (Nat.pow_lt_pow_right (by decide) (by omega)) (by omega)
  have HS4 := md_ (fun (w : World) (u : Value) (h : Nm w u 1) => r_Sh h (fit_lt (b := 1) (by decide) (by omega)) cm (by omega) (by omega) (by rw [Nat.one_mul, show cm.toNat = t by omega]; exact fh))
  rw [Nat.one_mul, show cm.toNat = t by omega] at HS4
  have fr : Fit (m % 2 ^ (t + 1)) := fit_le fm (Nat.mod_le _ _)
  have CC := md_ (fun (w : World) (u u2 : Value) (h : Nm w u (m % 2 ^ (t + 1))) (g : Nm w u2 (2 ^ t)) => r_Compare h g fr fh)
  have HL := md_ (fun (w : World) (u : Value) (h : Nm w u (m / 2 ^ (t + 1))) => r_Low h fq)
  obtain ⟨Q, hQ⟩ : ∃ z : Nat, m / 2 ^ (t + 1) = z := ⟨_, rfl⟩
  obtain ⟨R, hR⟩ : ∃ z : Nat, m % 2 ^ (t + 1) = z := ⟨_, rfl⟩
  obtain ⟨H, hH⟩ : ∃ z : Nat, 2 ^ t = z := ⟨_, rfl⟩
  obtain ⟨BK, hBK⟩ : ∃ z : Nat, Q * 2 ^ (t + 1) = z := ⟨_, rfl⟩
  rw [hQ, hR, hH] at hkk
  rw [hQ] at HS1 HS2 HS3 HL
  rw [hBK] at HS2 HS3
  rw [hR] at HS3 CC
  rw [hH] at HS4 CC
  have hQ2 : Q < 18446744073709551616 := by
   rw [hkk] at hk
   split at hk <;> omega
  rw [Nat.mod_eq_of_lt hQ2] at HL
  have hpar := low_par Q
  rw [Nat.mod_eq_of_lt hQ2] at hpar
  obtain ⟨cc, hcc⟩ : ∃ z, Num.cmpN R H = z := ⟨_, rfl⟩
  rw [hcc] at CC
  have hcc3 : (H < R ∧ cc = 1) ∨ (R = H ∧ cc = 0) ∨ (R < H ∧ cc = -1) := by
   rw [← hcc]
   unfold Num.cmpN
   split
   ·omega
   ·split <;> omega
  obtain ⟨V, hV⟩ : ∃ z : Nat, keep m e = z := ⟨_, rfl⟩
  rw [hV] at hk hkk
  have hr : rndR m e = if V = 9007199254740992 then (4503599627370496, X + 1) else (V, X) := by
   unfold rndR
   rw [hV, hXX]
   by_cases h : V = 9007199254740992
   ·rw [if_pos ⟨h, by omega⟩, if_pos h]
   ·rw [if_neg (fun k => h k.1), if_neg h]
  obtain ⟨qv, hqv⟩ : ∃ z : Int, (Q : Int) = z := ⟨_, rfl⟩
  obtain ⟨vv, hvv⟩ : ∃ z : Int, (V : Int) = z := ⟨_, rfl⟩
  obtain ⟨pv, hpv⟩ : ∃ z : Int, ((Q % 2 : Nat) : Int) = z := ⟨_, rfl⟩
  rw [hqv] at HL hpar
  rw [hpv] at hpar
  have hup : (decide (0 < cc) = true ∧ IntKind.u64.wrap (qv + 1) = vv) ∨ (decide (0 < cc) = false ∧ (cc == 0) = true ∧ (pv == 1) = true ∧ IntKind.u64.wrap (qv + 1) = vv) ∨ (decide (0 < cc) = false ∧ (cc == 0) = true ∧ (pv == 1) = false ∧ qv = vv) ∨ (decide (0 < cc) = false ∧ (cc == 0) = false ∧ qv = vv) := by
   rw [IntKind.wrap_u64, beq_iff_eq, beq_iff_eq, beq_eq_false_iff_ne, beq_eq_false_iff_ne, decide_eq_true_iff, decide_eq_false_iff_not]
   split at hkk <;> omega
  have hov : ((vv == 9007199254740992) = true ∧ vv / 2 = 4503599627370496 ∧ rndR m e = (4503599627370496, X + 1)) ∨ ((vv == 9007199254740992) = false ∧ rndR m e = (V, X)) := by
   rw [hr]
   by_cases h : V = 9007199254740992
   ·rw [if_pos h, beq_iff_eq]
    exact .inl ⟨by omega, by omega, rfl⟩
   ·rw [if_neg h, beq_eq_false_iff_ne]
    exact .inr ⟨by omega, rfl⟩
  have hone : shl .u64 1 53 = 9007199254740992 := by decide
  have W7 := wrp (x := X + 1) (y := X + 1) (by omega)
  have HVV := md_ hvv
  clear hv hm hb he he2 fm hX hn hc1 hs1 hXX hc hnc h0 hkk hr hk ht hnc2 fq hback hrest fb hcm fh fr hQ hR hH hBK hQ2 hcc hcc3 hV hqv hpv hvv
  obtain ⟨w1, x1⟩ := W1.out
  obtain ⟨w2, x2⟩ := W2.out
  obtain ⟨w4, x4⟩ := W4.out
  obtain ⟨w5, x5⟩ := W5.out
  obtain ⟨w6, x6⟩ := W6.out
  obtain ⟨w7, x7⟩ := W7.out
  clear W1 W2 W4 W5 W6 W7
  rcases hcase with ⟨d1, w3, x3⟩ | ⟨d1, rfl, rfl⟩ <;> rcases hup with ⟨u1, u2⟩ | ⟨u1, u2, u3, u4⟩ | ⟨u1, u2, u3, rfl⟩ | ⟨u1, u2, rfl⟩ <;> rcases hov with ⟨o1, o2, o3⟩ | ⟨o1, o3⟩ <;> rw [o3] <;> (
   clear o3
   go_enter Tryz.func132, Tryz.ntmps132
   go_wp2_with (first
    | (go_at_call 44; (with_reducible refine HN.out.mono ?_); rintro q w' ⟨rfl, hb⟩; have k_HV := md_ (HV.out.below hb); clear HV; have HV := k_HV; clear k_HV; replace HB := bt_ HB hb; clear hb)
    | (go_at_call 43; (with_reducible refine (HS1.out _ HV.out).mono ?_); rintro q w' ⟨u5, rfl, hr, hb⟩; have k_HV := md_ (HV.out.below hb); clear HV; have HV := k_HV; clear k_HV; replace HB := bt_ HB hb; have HQ := md_ hr; clear hr; clear hb)
    | (go_at_call 43; (with_reducible refine (HS2.out _ _ HQ.out).mono ?_); rintro q w' ⟨u6, rfl, hr, hb⟩; have k_HV := md_ (HV.out.below hb); clear HV; have HV := k_HV; clear k_HV; have k_HQ := md_ (HQ.out.below hb); clear HQ; have HQ := k_HQ; clear k_HQ; replace HB := bt_ HB hb; have HK := md_ hr; clear hr; clear hb)
    | (go_at_call 143; (with_reducible refine (HS3.out _ _ HV.out HK.out).mono ?_); rintro q w' ⟨u7, rfl, hr, hb⟩; have k_HQ := md_ (HQ.out.below hb); clear HQ; have HQ := k_HQ; clear k_HQ; replace HB := bt_ HB hb; have HR := md_ hr; clear hr; clear hb)
    | (go_at_call 42; (with_reducible refine (HO.out _).mono ?_); rintro q w' ⟨u8, rfl, hr, hb⟩; have k_HQ := md_ (HQ.out.below hb); clear HQ; have HQ := k_HQ; clear k_HQ; have k_HR := md_ (HR.out.below hb); clear HR; have HR := k_HR; clear k_HR; replace HB := bt_ HB hb; have H1 := md_ hr; clear hr; clear hb)
    | (go_at_call 43; (with_reducible refine (HS4.out _ _ H1.out).mono ?_); rintro q w' ⟨u9, rfl, hr, hb⟩; have k_HQ := md_ (HQ.out.below hb); clear HQ; have HQ := k_HQ; clear k_HQ; have k_HR := md_ (HR.out.below hb); clear HR; have HR := k_HR; clear k_HR; replace HB := bt_ HB hb; have HH := md_ hr; clear hr; clear hb)
    | (go_at_call 102; (with_reducible refine (CC.out _ _ _ HR.out HH.out).mono ?_); rintro q w' ⟨rfl, hb⟩; have k_HQ := md_ (HQ.out.below hb); clear HQ; have HQ := k_HQ; clear k_HQ; replace HB := bt_ HB hb; clear hb)
    | (go_at_call 105; (with_reducible refine (HL.out _ _ HQ.out).mono ?_); rintro q w' ⟨rfl, hw⟩; obtain rfl := hw.symm))
   go_ret3
   exact ⟨by first | rfl | (rw [HVV.out] <;> rfl), HB.out⟩)
set_option maxRecDepth 100000 in
theorem r3_signed (w : World) (neg : Bool) (a : Nat) (ha : a < 9223372036854775808) : Calls Tryz.prog 131 #[.bool neg, .int .u64 (a : Int)] w fun e w' => e = .returned (.int .u64 ((sg neg a : Nat) : Int)) ∧ w' = w := by
 cases neg with
 | false =>
  rw [sg_false]
  obtain ⟨aa, haa⟩ : ∃ z : Int, (a : Int) = z := ⟨_, rfl⟩
  rw [haa]
  clear haa ha
  go_enter Tryz.func131, Tryz.ntmps131
  go_wp2
  go_ret
  exact ⟨rfl, rfl⟩
 | true =>
  rw [sg_true]
  have h : bits .or .u64 (a : Int) 9223372036854775808 = ((a + 9223372036854775808 : Nat) : Int) := by
   rw [show (9223372036854775808 : Int) = ((9223372036854775808 : Nat) : Int) from rfl, u64_or_nat _ _ (by omega) (by decide), Nat.or_comm]
   congr 1
   rw [nat_join 63 9223372036854775808 a (by decide) ha, Nat.add_comm]
  obtain ⟨aa, haa⟩ : ∃ z : Int, (a : Int) = z := ⟨_, rfl⟩
  obtain ⟨r, hr⟩ : ∃ z : Int, ((a + 9223372036854775808 : Nat) : Int) = z := ⟨_, rfl⟩
  rw [haa, hr] at h
  rw [haa, hr]
  clear haa ha hr
  go_enter Tryz.func131, Tryz.ntmps131
  go_wp2
  go_ret
  exact ⟨by first | rfl | rw [h], rfl⟩
theorem mkN_lt (m : Nat) (e : Int) : mkN m e < 9223372036854775808 := by
 unfold mkN
 split
 ·decide
 ·omega
theorem bits_words {m : Nat} (h : Num.bitsN m ≤ 31000) : (Num.wordsN m).length ≤ 1000 := len_lt (Num.bitsN_lt m) (by omega)
theorem words_zero {m : Nat} (h : 0 < m) : 0 < (Num.wordsN m).length := by
 rcases Nat.eq_zero_or_pos (Num.wordsN m).length with z | z
 ·exfalso
  have : m = 0 := by rw [← Num.wordsN_val m, List.eq_nil_of_length_eq_zero z]; rfl
  omega
 ·exact z
set_option maxRecDepth 100000 in
theorem r3_Make_zero (w : World) (neg : Bool) {v : Value} (hv : Nm w v 0) (e : Int) : Calls Tryz.prog 78 #[.bool neg, v, .int .i64 e] w fun x w' => x = .returned (.int .u64 ((sg neg 0 : Nat) : Int)) ∧ Below w.heap.size w w' := by
 have HN := md_ (r_NormV hv (Num.wordsN_ok 0) (by rw [Num.wordsN_zero]; decide))
 rw [Num.wordsN_val] at HN
 have HS : Aside0 (∀ w, Calls Tryz.prog 131 #[.bool neg, .int .u64 0] w fun e w' => e = .returned (.int .u64 ((sg neg 0 : Nat) : Int)) ∧ w' = w) := ⟨fun w => r3_signed w neg 0 (by decide)⟩
 have HZ := md_ (show (Num.wordsN 0).length = 0 by rw [Num.wordsN_zero]; rfl)
 obtain ⟨r, hr⟩ : ∃ z : Int, ((sg neg 0 : Nat) : Int) = z := ⟨_, rfl⟩
 rw [hr] at HS
 rw [hr]
 have HB := md_ (Below.refl w.heap.size w)
 clear hv hr
 go_enter Tryz.func78, Tryz.ntmps78
 go_wp2_with (first
  | (go_at_call 99; (with_reducible refine HN.out.mono ?_); rintro q w' ⟨u, rfl, hr, hb⟩; obtain ⟨A, c, hva, -, -, -⟩ := hr.open; rw [HZ.out] at hva; subst hva; replace HB := bt_ HB hb; clear hb hr)
  | (go_at_call 131; (with_reducible refine (HS.out _).mono ?_); rintro q w' ⟨rfl, hw⟩; obtain rfl := hw.symm))
 go_ret
 exact ⟨rfl, HB.out⟩
theorem join52 {x v : Nat} (hx : x < 2048) (hv : v ≤ 9007199254740992) : bits .or .u64 ((x : Int) * 4503599627370496) (bits .and .u64 (v : Int) 4503599627370495) = ((x * 4503599627370496 + v % 4503599627370496 : Nat) : Int) := by
 rw [show (4503599627370495 : Int) = ((4503599627370495 : Nat) : Int) from rfl, u64_and_nat _ _ (by omega) (by decide), show v &&& 4503599627370495 = v % 4503599627370496 from Nat.and_two_pow_sub_one_eq_mod v 52, show (x : Int) * 4503599627370496 = ((x * 4503599627370496 : Nat) : Int) by omega, u64_or_nat _ _ (by omega) (by omega)]
 congr 1
 exact nat_join 52 (x * 4503599627370496) (v % 4503599627370496) (Nat.mul_mod_left _ _) (Nat.mod_lt _ (by decide))
set_option maxRecDepth 100000 in
theorem r3_Make_pos (w : World) (neg : Bool) {v : Value} (m : Nat) (hv : Nm w v m) (hm : 0 < m) (hb : Num.bitsN m ≤ 31000) (e : Int) : Calls Tryz.prog 78 #[.bool neg, v, .int .i64 e] w fun x w' => x = .returned (.int .u64 ((sg neg (mkN m e) : Nat) : Int)) ∧ Below w.heap.size w w' := by
 have fm : Fit m := fit_lt (Num.bitsN_lt m) (by omega)
 have HN := md_ (r_NormV hv (Num.wordsN_ok m) (by unfold Fit at fm; omega))
 rw [Num.wordsN_val] at HN
 have HBI := md_ (fun (w : World) (u : Value) (h : Nm w u m) => r_Bits h fm)
 obtain ⟨L, hL⟩ : ∃ z, (Num.wordsN m).length = z := ⟨_, rfl⟩
 have hL1 := bits_words hb
 have hL2 := words_zero hm
 rw [hL] at hL1 hL2
 have HL := md_ hL
 have k1 := decide_eq_false (show ¬ (1000 : Int) < (L : Int) by omega)
 have k2 := decide_eq_false (show ¬ 1000 < L by omega)
 have k3 : ((L : Int) == 0) = false := by rw [beq_eq_false_iff_ne]; omega
 have k4 : ¬ L = 0 := by omega
 have k5 : ¬ (L : Int) = 0 := by omega
 have HB := md_ (Below.refl w.heap.size w)
 have hX : expo m e = max ((Num.bitsN m : Int) + e - 53) (-1074) := rfl
 have hn1 : 0 < Num.bitsN m := by
  rcases Nat.eq_zero_or_pos (Num.bitsN m) with z | z
  ·exfalso
   have := Num.bitsN_lt m
   rw [z] at this
   omega
  ·exact z
 by_cases h1 : 2000 < e
 ·rw [mkN_big hm (by omega)]
  have d1 := decide_eq_true h1
  have HS : Aside0 (∀ w, Calls Tryz.prog 131 #[.bool neg, .int .u64 9218868437227405312] w fun e w' => e = .returned (.int .u64 ((sg neg 9218868437227405312 : Nat) : Int)) ∧ w' = w) := ⟨fun w => r3_signed w neg 9218868437227405312 (by decide)⟩
  obtain ⟨r, hr⟩ : ∃ z : Int, ((sg neg 9218868437227405312 : Nat) : Int) = z := ⟨_, rfl⟩
  obtain ⟨n, hn⟩ : ∃ z : Int, ((Num.bitsN m : Nat) : Int) = z := ⟨_, rfl⟩
  rw [hn] at HBI
  rw [hr] at HS
  rw [hr]
  clear hv hm hb fm hL hL1 hL2 hX hn1 h1 hr hn
  go_enter Tryz.func78, Tryz.ntmps78
  go_wp2_with (first
   | (go_at_call 99; (with_reducible refine HN.out.mono ?_); rintro q w' ⟨u, rfl, hr, hb⟩; obtain ⟨A, c, hva, -, -, -⟩ := hr.open; rw [HL.out] at hva; subst hva; have HU := md_ hr; replace HB := bt_ HB hb; clear hb hr)
   | (go_at_call 44; (with_reducible refine (HBI.out _ _ HU.out).mono ?_); rintro q w' ⟨rfl, hb⟩; have k_HU := md_ (HU.out.below hb); clear HU; have HU := k_HU; clear k_HU; replace HB := bt_ HB hb; clear hb)
   | (go_at_call 131; (with_reducible refine (HS.out _).mono ?_); rintro q w' ⟨rfl, hw⟩; obtain rfl := hw.symm))
  go_ret
  exact ⟨rfl, HB.out⟩
 have d1 := decide_eq_false h1
 by_cases h2 : e < -1200 - (Num.bitsN m : Int)
 ·rw [mkN_small (by omega)]
  have d2 := decide_eq_true h2
  have HS : Aside0 (∀ w, Calls Tryz.prog 131 #[.bool neg, .int .u64 0] w fun e w' => e = .returned (.int .u64 ((sg neg 0 : Nat) : Int)) ∧ w' = w) := ⟨fun w => r3_signed w neg 0 (by decide)⟩
  obtain ⟨r, hr⟩ : ∃ z : Int, ((sg neg 0 : Nat) : Int) = z := ⟨_, rfl⟩
  obtain ⟨n, hn⟩ : ∃ z : Int, ((Num.bitsN m : Nat) : Int) = z := ⟨_, rfl⟩
  rw [hn] at HBI h2 d2
  have W1 := wrp (x := -1200 - n) (y := -1200 - n) (by omega)
  rw [hr] at HS
  rw [hr]
  clear hv hm hb fm hL hL1 hL2 hX hn1 h1 h2 hr hn
  obtain ⟨w1, x1⟩ := W1.out
  clear W1
  go_enter Tryz.func78, Tryz.ntmps78
  go_wp2_with (first
   | (go_at_call 99; (with_reducible refine HN.out.mono ?_); rintro q w' ⟨u, rfl, hr, hb⟩; obtain ⟨A, c, hva, -, -, -⟩ := hr.open; rw [HL.out] at hva; subst hva; have HU := md_ hr; replace HB := bt_ HB hb; clear hb hr)
   | (go_at_call 44; (with_reducible refine (HBI.out _ _ HU.out).mono ?_); rintro q w' ⟨rfl, hb⟩; have k_HU := md_ (HU.out.below hb); clear HU; have HU := k_HU; clear k_HU; replace HB := bt_ HB hb; clear hb)
   | (go_at_call 131; (with_reducible refine (HS.out _).mono ?_); rintro q w' ⟨rfl, hw⟩; obtain rfl := hw.symm))
  go_ret
  exact ⟨rfl, HB.out⟩
 have d2 := decide_eq_false h2
 rw [← pat_mk hm e]
 have hlt := mkN_lt m e
 rw [← pat_mk hm e] at hlt
 have HR := md_ (fun (w : World) (u : Value) (h : Nm w u m) => r3_round w m h hm hb e (by omega) (by omega))
 have hv1 : (rndR m e).1 ≤ 9007199254740992 := by
  have := keep_le hm e
  unfold rndR
  split
  ·show 4503599627370496 ≤ 9007199254740992
   decide
  ·exact this
 have hx1 : -1074 ≤ (rndR m e).2 ∧ (rndR m e).2 ≤ 40000 := by
  have := expo_ge m e
  unfold rndR
  split
  ·show -1074 ≤ expo m e + 1 ∧ expo m e + 1 ≤ 40000
   omega
  ·show -1074 ≤ expo m e ∧ expo m e ≤ 40000
   omega
 obtain ⟨V, hV⟩ : ∃ z, (rndR m e).1 = z := ⟨_, rfl⟩
 obtain ⟨X, hXX⟩ : ∃ z, (rndR m e).2 = z := ⟨_, rfl⟩
 rw [hV, hXX] at HR hlt
 rw [hV] at hv1
 rw [hXX] at hx1
 rw [hV, hXX]
 obtain ⟨n, hn⟩ : ∃ z : Int, ((Num.bitsN m : Nat) : Int) = z := ⟨_, rfl⟩
 rw [hn] at HBI h2 d2
 have W1 := wrp (x := -1200 - n) (y := -1200 - n) (by omega)
 unfold patR at hlt ⊢
 clear hv hm hb fm hL hL1 hL2 hX hn1 h1 h2 hn hV hXX
 by_cases c1 : 971 < X
 ·rw [if_pos c1]
  rw [decide_eq_true c1] at HR
  have HS : Aside0 (∀ w, Calls Tryz.prog 131 #[.bool neg, .int .u64 9218868437227405312] w fun e w' => e = .returned (.int .u64 ((sg neg 9218868437227405312 : Nat) : Int)) ∧ w' = w) := ⟨fun w => r3_signed w neg 9218868437227405312 (by decide)⟩
  obtain ⟨r, hr⟩ : ∃ z : Int, ((sg neg 9218868437227405312 : Nat) : Int) = z := ⟨_, rfl⟩
  obtain ⟨Vv, hVv⟩ : ∃ z : Int, (V : Int) = z := ⟨_, rfl⟩
  rw [hVv] at HR
  rw [hr] at HS
  rw [hr]
  clear c1 hr hVv hlt hv1 hx1
  obtain ⟨w1, x1⟩ := W1.out
  clear W1
  go_enter Tryz.func78, Tryz.ntmps78
  go_wp2_with (first
   | (go_at_call 99; (with_reducible refine HN.out.mono ?_); rintro q w' ⟨u, rfl, hr, hb⟩; obtain ⟨A, c, hva, -, -, -⟩ := hr.open; rw [HL.out] at hva; subst hva; have HU := md_ hr; replace HB := bt_ HB hb; clear hb hr)
   | (go_at_call 44; (with_reducible refine (HBI.out _ _ HU.out).mono ?_); rintro q w' ⟨rfl, hb⟩; have k_HU := md_ (HU.out.below hb); clear HU; have HU := k_HU; clear k_HU; replace HB := bt_ HB hb; clear hb)
   | (go_at_call 132; (with_reducible refine (HR.out _ _ HU.out).mono ?_); rintro q w' ⟨rfl, hb⟩; replace HB := bt_ HB hb; clear hb)
   | (go_at_call 131; (with_reducible refine (HS.out _).mono ?_); rintro q w' ⟨rfl, hw⟩; obtain rfl := hw.symm))
  go_ret
  exact ⟨rfl, HB.out⟩
 rw [if_neg c1] at hlt ⊢
 rw [decide_eq_false c1] at HR
 by_cases c2 : V < 4503599627370496
 ·rw [if_pos c2] at hlt ⊢
  have HS := md_ (fun w => r3_signed w neg V hlt)
  have d3 := decide_eq_true (show (V : Int) < 4503599627370496 by omega)
  obtain ⟨r, hr⟩ : ∃ z : Int, ((sg neg V : Nat) : Int) = z := ⟨_, rfl⟩
  obtain ⟨Vv, hVv⟩ : ∃ z : Int, (V : Int) = z := ⟨_, rfl⟩
  rw [hVv] at HR HS d3
  rw [hr] at HS
  rw [hr]
  clear c1 c2 hr hVv hlt hv1 hx1
  obtain ⟨w1, x1⟩ := W1.out
  clear W1
  go_enter Tryz.func78, Tryz.ntmps78
  go_wp2_with (first
   | (go_at_call 99; (with_reducible refine HN.out.mono ?_); rintro q w' ⟨u, rfl, hr, hb⟩; obtain ⟨A, c, hva, -, -, -⟩ := hr.open; rw [HL.out] at hva; subst hva; have HU := md_ hr; replace HB := bt_ HB hb; clear hb hr)
   | (go_at_call 44; (with_reducible refine (HBI.out _ _ HU.out).mono ?_); rintro q w' ⟨rfl, hb⟩; have k_HU := md_ (HU.out.below hb); clear HU; have HU := k_HU; clear k_HU; replace HB := bt_ HB hb; clear hb)
   | (go_at_call 132; (with_reducible refine (HR.out _ _ HU.out).mono ?_); rintro q w' ⟨rfl, hb⟩; replace HB := bt_ HB hb; clear hb)
   | (go_at_call 131; (with_reducible refine (HS.out _).mono ?_); rintro q w' ⟨rfl, hw⟩; obtain rfl := hw.symm))
  go_ret
  exact ⟨rfl, HB.out⟩
 ·rw [if_neg c2] at hlt ⊢
  obtain ⟨y, hy⟩ : ∃ y : Nat, X + 1075 = (y : Int) := ⟨(X + 1075).toNat, by omega⟩
  rw [hy, Int.toNat_natCast] at hlt ⊢
  have HS := md_ (fun w => r3_signed w neg (y * 4503599627370496 + V % 4503599627370496) hlt)
  have d3 := decide_eq_false (show ¬ (V : Int) < 4503599627370496 by omega)
  have hj := join52 (x := y) (v := V) (by omega) hv1
  obtain ⟨r, hr⟩ : ∃ z : Int, ((sg neg (y * 4503599627370496 + V % 4503599627370496) : Nat) : Int) = z := ⟨_, rfl⟩
  obtain ⟨P, hP⟩ : ∃ z : Int, ((y * 4503599627370496 + V % 4503599627370496 : Nat) : Int) = z := ⟨_, rfl⟩
  obtain ⟨yv, hyv⟩ : ∃ z : Int, (y : Int) = z := ⟨_, rfl⟩
  obtain ⟨Vv, hVv⟩ : ∃ z : Int, (V : Int) = z := ⟨_, rfl⟩
  rw [hP, hyv, hVv] at hj
  rw [hP] at HS
  rw [hVv] at HR d3
  rw [hr] at HS
  rw [hr]
  have W2 := wrp (x := X + 1075) (y := yv) (by omega)
  have e1 : IntKind.u64.wrap yv = yv := by rw [IntKind.wrap_u64]; omega
  have e2 : IntKind.u64.wrap (yv * 4503599627370496) = yv * 4503599627370496 := by rw [IntKind.wrap_u64]; omega
  clear c1 c2 hr hVv hlt hv1 hx1 hy hP hyv
  obtain ⟨w1, x1⟩ := W1.out
  obtain ⟨w2, x2⟩ := W2.out
  clear W1 W2
  go_enter Tryz.func78, Tryz.ntmps78
  go_wp2_with (first
   | (go_at_call 99; (with_reducible refine HN.out.mono ?_); rintro q w' ⟨u, rfl, hr, hb⟩; obtain ⟨A, c, hva, -, -, -⟩ := hr.open; rw [HL.out] at hva; subst hva; have HU := md_ hr; replace HB := bt_ HB hb; clear hb hr)
   | (go_at_call 44; (with_reducible refine (HBI.out _ _ HU.out).mono ?_); rintro q w' ⟨rfl, hb⟩; have k_HU := md_ (HU.out.below hb); clear HU; have HU := k_HU; clear k_HU; replace HB := bt_ HB hb; clear hb)
   | (go_at_call 132; (with_reducible refine (HR.out _ _ HU.out).mono ?_); rintro q w' ⟨rfl, hb⟩; replace HB := bt_ HB hb; clear hb)
   | (go_at_call 131; (with_reducible refine (HS.out _).mono ?_); rintro q w' ⟨rfl, hw⟩; obtain rfl := hw.symm))
  go_ret
  exact ⟨rfl, HB.out⟩
theorem r3_Make (w : World) (neg : Bool) {v : Value} (m : Nat) (hv : Nm w v m) (hb : Num.bitsN m ≤ 31000) (e : Int) : Calls Tryz.prog 78 #[.bool neg, v, .int .i64 e] w fun x w' => x = .returned (.int .u64 ((sg neg (mkN m e) : Nat) : Int)) ∧ Below w.heap.size w w' := by
 rcases Nat.eq_zero_or_pos m with h | h
 ·subst h
  have e0 : mkN 0 e = 0 := by unfold mkN; rw [if_pos rfl]
  rw [e0]
  exact r3_Make_zero w neg hv e
 ·exact r3_Make_pos w neg m hv h hb e
end Go.Proofs.YtdoeigngpemcgaaGreatDoor.Dec
namespace Go.Flt
open Go.Num
theorem quo_long {a b K : Nat} (ha : 0 < a) (hb : 0 < b) (hK : 70 + bitsN b ≤ bitsN a + K) : 55 ≤ bitsN (sq (a * 2 ^ K) (b * 2 ^ 0)) := by
 rw [Nat.pow_zero, Nat.mul_one]
 have h1 := bitsN_le ha
 have h2 := bitsN_lt b
 have h0 : 0 < bitsN a := by
  rcases Nat.eq_zero_or_pos (bitsN a) with z | z
  ·exfalso
   have := bitsN_lt a
   rw [z] at this
   omega
  ·exact z
 have h3 : 2 ^ 54 * b ≤ a * 2 ^ K := by
  have e1 : 2 ^ 54 * b ≤ 2 ^ (54 + bitsN b) := by
   rw [Nat.pow_add]
   exact Nat.mul_le_mul_left _ (Nat.le_of_lt h2)
  have e2 : 2 ^ (bitsN a - 1 + K) ≤ a * 2 ^ K := by
   rw [Nat.pow_add]
   exact Nat.mul_le_mul_right _ h1
  exact Nat.le_trans e1 (Nat.le_trans (Nat.pow_le_pow_right (by decide) (by omega)) e2)
 have h4 : 2 ^ 54 ≤ a * 2 ^ K / b := (Nat.le_div_iff_mul_le hb).2 h3
 have h5 : 2 ^ 54 ≤ sq (a * 2 ^ K) b := by
  unfold sq
  generalize 2 ^ 54 = c at *
  omega
 exact bits_gt_of h5
end Go.Flt
namespace Go.Proofs.YtdoeigngpemcgaaGreatDoor.Dec
open Go.RowKit Go.Flt Go.Read Go.Proofs.YtdoeigngpemcgaaGreatDoor.PDec Go.Proofs.YtdoeigngpemcgaaGreatDoor.Pure Go.Proofs.YtdoeigngpemcgaaGreatDoorW.PrintWords Go.Proofs.YtdoeigngpemcgaaGreatDoorW.PrintLast Go.Proofs.YtdoeigngpemcgaaGreatDoorW.PrintMore
set_option maxRecDepth 100000 in
theorem r3_Quotient (w : World) (neg : Bool) {v u : Value} {a b : Nat} (hv : Nm w v a) (hu : Nm w u b) (ha : 0 < a) (hb : 0 < b) (ba : Num.bitsN a ≤ 6000) (bb : Num.bitsN b ≤ 6000) : Calls Tryz.prog 82 #[.bool neg, v, u, .int .i64 0] w fun x w' => x = .returned (.int .u64 ((sg neg (fl a b) : Nat) : Int)) ∧ Below w.heap.size w w' := by
 obtain ⟨K, hK⟩ : ∃ K : Nat, 70 + Num.bitsN b - Num.bitsN a = K := ⟨_, rfl⟩
 have hq := quo_fl ha hb K 0 (quo_long ha hb (by omega))
 rw [Nat.pow_zero, Nat.mul_one] at hq
 rw [← hq]
 have fa : Fit a := fit_lt (Num.bitsN_lt a) (by omega)
 have fb : Fit b := fit_lt (Num.bitsN_lt b) (by omega)
 have fb32 : Fit (b * 4294967296) := by
  have h : b * 4294967296 < 2 ^ Num.bitsN b * 2 ^ 32 := Nat.mul_lt_mul_of_pos_right (Num.bitsN_lt b) (by decide)
  rw [← Nat.pow_add] at h
  exact fit_lt h (by omega)
 have hX : a * 2 ^ K < 2 ^ (Num.bitsN a + K) := by
  rw [Nat.pow_add]
  exact Nat.mul_lt_mul_of_pos_right (Num.bitsN_lt a) (Nat.two_pow_pos K)
 have fX : Fit (a * 2 ^ K) := fit_lt hX (by omega)
 obtain ⟨X, hXX⟩ : ∃ X, a * 2 ^ K = X := ⟨_, rfl⟩
 rw [hXX] at hX fX
 have hql : X / b ≤ X := Nat.div_le_self _ _
 obtain ⟨Q, hQ⟩ : ∃ Q, X / b = Q := ⟨_, rfl⟩
 obtain ⟨R, hR⟩ : ∃ R, X % b = R := ⟨_, rfl⟩
 rw [hQ] at hql
 have hQ2 : Q * 2 + 1 < 2 ^ (Num.bitsN a + K + 1) := by rw [Nat.pow_succ]; omega
 have fQ2 : Fit (Q * 2) := fit_lt (b := Num.bitsN a + K + 1) (by omega) (by omega)
 have hsq : sq (a * 2 ^ K) b = Q * 2 + (if R = 0 then 0 else 1) := by
  unfold sq
  rw [hXX, hQ, hR, Nat.mul_comm]
 rw [hsq]
 have B1 := md_ (fun (w : World) (h : Nm w u b) => r_Bits h fb)
 have B2 := md_ (fun (w : World) (h : Nm w v a) => r_Bits h fa)
 have HS := md_ (fun (w : World) (h : Nm w v a) => r_Sh h fa K (by omega) (by omega) (by rw [Int.toNat_natCast, hXX]; exact fX))
 rw [Int.toNat_natCast, hXX] at HS
 have HD := md_ (fun (w : World) (x : Value) (h : Nm w x X) (g : Nm w u b) => r_Divide h g fX fb32 (Nat.ne_of_gt hb))
 rw [hQ, hR] at HD
 have HS2 : Aside0 (∀ (w : World) (x : Value), Nm w x Q → Calls Tryz.prog 43 #[x, .int .i64 1] w fun e w' => ∃ r, e = .returned (.tuple #[r, .int .i64 0]) ∧ Nm w' r (Q * 2) ∧ Below w.heap.size w w') := ⟨fun w x h => r_Sh h (fit_le fX hql) 1 (by decide) (by decide) (by show Fit (Q * 2 ^ 1); rw [Nat.pow_one]; exact fQ2)⟩
 have HO : Aside0 (∀ w, Calls Tryz.prog 42 #[.int .u64 1] w fun e w' => ∃ r, e = .returned r ∧ Nm w' r 1 ∧ Below w.heap.size w w') := ⟨fun w => r_Of w 1 (by decide)⟩
 have HA := md_ (fun (w : World) (x y : Value) (h : Nm w x (Q * 2)) (g : Nm w y 1) => r_Add h g fQ2 (fit_lt (b := 1) (by decide) (by omega)))
 obtain ⟨E, hE⟩ : ∃ z, Q * 2 + (if R = 0 then 0 else 1) = z := ⟨_, rfl⟩
 have bE : Num.bitsN E ≤ 31000 := Nat.le_trans (bits_lt (b := Num.bitsN a + K + 1) (by rw [← hE]; split <;> omega)) (by omega)
 have HM := md_ (fun (w : World) (x : Value) (h : Nm w x E) => r3_Make w neg E h bE (((0 : Nat) : Int) - K - 1))
 obtain ⟨res, hres⟩ : ∃ z : Int, ((sg neg (mkN E (((0 : Nat) : Int) - K - 1)) : Nat) : Int) = z := ⟨_, rfl⟩
 rw [hE, hres]
 rw [hres] at HM
 obtain ⟨xe, hxe⟩ : ∃ z : Int, ((0 : Nat) : Int) - K - 1 = z := ⟨_, rfl⟩
 rw [hxe] at HM
 obtain ⟨nb, hnb⟩ : ∃ z : Int, ((Num.bitsN b : Nat) : Int) = z := ⟨_, rfl⟩
 obtain ⟨na, hna⟩ : ∃ z : Int, ((Num.bitsN a : Nat) : Int) = z := ⟨_, rfl⟩
 rw [hnb] at B1
 rw [hna] at B2
 obtain ⟨s1, hs1⟩ : ∃ z : Int, 70 + nb = z := ⟨_, rfl⟩
 obtain ⟨s2, hs2⟩ : ∃ z : Int, s1 - na = z := ⟨_, rfl⟩
 obtain ⟨kv, hkv⟩ : ∃ z : Int, (K : Int) = z := ⟨_, rfl⟩
 rw [hkv] at HS
 obtain ⟨nk, hnk⟩ : ∃ z : Int, -kv = z := ⟨_, rfl⟩
 have W1 := wrp (x := 70 + nb) (y := s1) (by omega)
 have W2 := wrp (x := s1 - na) (y := s2) (by omega)
 have W3 := wrp (x := 0 - kv) (y := nk) (by omega)
 have W4 := wrp (x := -kv) (y := nk) (by omega)
 have W5 := wrp (x := nk - 1) (y := xe) (by omega)
 have hk2 : (decide (s2 < 0) = true ∧ kv = 0 ∧ xe = -1) ∨ (decide (s2 < 0) = false ∧ s2 = kv) := by
  by_cases h : s2 < 0
  ·exact .inl ⟨decide_eq_true h, by omega, by omega⟩
  ·exact .inr ⟨decide_eq_false h, by omega⟩
 have hR2 : (R = 0 ∧ E = Q * 2) ∨ (0 < (Num.wordsN R).length ∧ E = Q * 2 + 1) := by
  rw [← hE]
  by_cases h : R = 0
  ·rw [if_pos h]; exact .inl ⟨h, rfl⟩
  ·rw [if_neg h]; exact .inr ⟨words_zero (by omega), rfl⟩
 obtain ⟨L, hL⟩ : ∃ z, (Num.wordsN R).length = z := ⟨_, rfl⟩
 have HL := md_ hL
 have hL2 : (decide (0 < L) = false ∧ E = Q * 2) ∨ (decide (0 < L) = true ∧ E = Q * 2 + 1) := by
  rcases hR2 with ⟨h1, h2⟩ | ⟨h1, h2⟩
  ·subst h1
   rw [Num.wordsN_zero] at hL
   exact .inl ⟨decide_eq_false (by rw [← hL]; decide), h2⟩
  ·exact .inr ⟨decide_eq_true (by omega), h2⟩
 have HV := md_ hv
 have HU := md_ hu
 have HB := md_ (Below.refl w.heap.size w)
 clear hv hu ha hb ba bb hK hq fa fb fb32 hX fX hXX hql hQ hR hQ2 fQ2 hsq hE bE hres hxe hnb hna hs1 hs2 hkv hnk hR2 hL
 obtain ⟨w1, x1⟩ := W1.out
 obtain ⟨w2, x2⟩ := W2.out
 obtain ⟨w3, x3⟩ := W3.out
 obtain ⟨w4, x4⟩ := W4.out
 obtain ⟨w5, x5⟩ := W5.out
 clear W1 W2 W3 W4 W5
 rcases hk2 with ⟨d1, rfl, rfl⟩ | ⟨d1, rfl⟩ <;> rcases hL2 with ⟨d2, rfl⟩ | ⟨d2, rfl⟩ <;> (
  go_enter Tryz.func82, Tryz.ntmps82
  go_wp2_with (first
   | (go_at_call 44; (with_reducible refine (B1.out _ HU.out).mono ?_); rintro q w' ⟨rfl, hb⟩; have k_HV := md_ (HV.out.below hb); clear HV; have HV := k_HV; clear k_HV; have k_HU := md_ (HU.out.below hb); clear HU; have HU := k_HU; clear k_HU; replace HB := bt_ HB hb; clear hb)
   | (go_at_call 44; (with_reducible refine (B2.out _ HV.out).mono ?_); rintro q w' ⟨rfl, hb⟩; have k_HV := md_ (HV.out.below hb); clear HV; have HV := k_HV; clear k_HV; have k_HU := md_ (HU.out.below hb); clear HU; have HU := k_HU; clear k_HU; replace HB := bt_ HB hb; clear hb)
   | (go_at_call 43; (with_reducible refine (HS.out _ HV.out).mono ?_); rintro q w' ⟨x, rfl, hr, hb⟩; have k_HU := md_ (HU.out.below hb); clear HU; have HU := k_HU; clear k_HU; replace HB := bt_ HB hb; have HX := md_ hr; clear hr; clear hb)
   | (go_at_call 103; (with_reducible refine (HD.out _ _ HX.out HU.out).mono ?_); rintro q w' ⟨qv, rv, rfl, hr, hr2, hb⟩; obtain ⟨Ar, cr, hra, -, -, -⟩ := hr2.open; rw [HL.out] at hra; subst hra; clear hr2; replace HB := bt_ HB hb; have HQ := md_ hr; clear hr; clear hb)
   | (go_at_call 43; (with_reducible refine (HS2.out _ _ HQ.out).mono ?_); rintro q w' ⟨q2, rfl, hr, hb⟩; replace HB := bt_ HB hb; have HQ2 := md_ hr; clear hr; clear hb)
   | (go_at_call 42; (with_reducible refine (HO.out _).mono ?_); rintro q w' ⟨o, rfl, hr, hb⟩; have k_HQ2 := md_ (HQ2.out.below hb); clear HQ2; have HQ2 := k_HQ2; clear k_HQ2; replace HB := bt_ HB hb; have H1 := md_ hr; clear hr; clear hb)
   | (go_at_call 104; (with_reducible refine (HA.out _ _ _ HQ2.out H1.out).mono ?_); rintro q w' ⟨q3, rfl, hr, hb⟩; replace HB := bt_ HB hb; have HE := md_ hr; clear hr; clear hb)
   | (go_at_call 78; (with_reducible refine (HM.out _ _ HE.out).mono ?_); rintro q w' ⟨rfl, hb⟩; replace HB := bt_ HB hb; clear hb)
   | (go_at_call 78; (with_reducible refine (HM.out _ _ HQ2.out).mono ?_); rintro q w' ⟨rfl, hb⟩; replace HB := bt_ HB hb; clear hb))
  go_ret
  exact ⟨rfl, HB.out⟩)
theorem trim0_cons {t : List UInt8} : trim0 (48 :: t) = trim0 t := rfl
theorem trim0_stop {c : UInt8} {t : List UInt8} (h : c ≠ 48) : trim0 (c :: t) = c :: t := by
 unfold trim0
 rw [List.dropWhile_cons, if_neg (by simpa using h)]
set_option maxRecDepth 100000 in
theorem r4_value (w : World) (neg : Bool) (l : List UInt8) (hd : Num.digs l = true) (hl : l.length ≤ 400) (x : Int) (hx : -2000000 ≤ x) (hx2 : x ≤ 2000000) : Calls Tryz.prog 35 #[.bool neg, .string (bs l), .int .i64 x] w fun q w' => q = .returned (.int .u64 ((sg neg (flt (Num.decL 0 l) x) : Nat) : Int)) ∧ Below w.heap.size w w' := by
 obtain ⟨res, hres⟩ : ∃ z : Int, ((sg neg (flt (Num.decL 0 l) x) : Nat) : Int) = z := ⟨_, rfl⟩
 have HRES := md_ hres
 rw [hres]
 have HD := md_ hd
 have HX := md_ (show -2000000 ≤ x ∧ x ≤ 2000000 from ⟨hx, hx2⟩)
 have HL := md_ hl
 clear hres hd hl hx hx2
 obtain ⟨s0, hs0⟩ : ∃ z, bs l = z := ⟨_, rfl⟩
 have HS0 := md_ hs0
 rw [hs0]
 clear hs0
 go_enter Tryz.func35, Tryz.ntmps35
 go_wp2
 go_loopg [1] l.length (fun kq v1 wr => ∃ (m : List UInt8) (s : ByteArray), v1 = .string s ∧ Aside0 (bs m = s) ∧ Aside0 (m.length ≤ kq) ∧ Aside0 (trim0 m = trim0 l) ∧ wr = w)
 case atStart => exact ⟨l, s0, rfl, HS0, ⟨Nat.le_refl _⟩, ⟨rfl⟩, rfl⟩
 case round =>
  clear HS0
  obtain ⟨m, s, rfl, HS, HK, HT, rfl⟩ := hrel
  match m with
  | [] =>
   have hz : Num.decL 0 l = 0 := by rw [← decL_trim, ← HT.out]; rfl
   have hsz : s.size = 0 := by rw [← HS.out, bs_size]; rfl
   have o1 : s.toList = [] := by rw [← HS.out]; exact bs_list []
   have o2 : s.toList.isEmpty = true := by rw [o1]; rfl
   have o3 := decide_eq_false (show ¬ (0 : Int) < (s.size : Nat) by omega)
   have o4 := decide_eq_false (show ¬ 0 < s.size by omega)
   have hr : ((sg neg 0 : Nat) : Int) = res := by rw [← HRES.out, hz, flt_nil]
   have HM : Aside0 (∀ w, Calls Tryz.prog 78 #[.bool neg, .slice none 0 0, .int .i64 0] w fun x w' => x = .returned (.int .u64 res) ∧ Below w.heap.size w w') := ⟨fun w => hr ▸ r3_Make_zero w neg (Nm.nil w) 0⟩
   clear hz hr HS HK HT HRES
   go_wp2_with (go_at_call 78; (with_reducible refine (HM.out _).mono ?_); rintro q w' ⟨rfl, hb⟩; have HB := md_ hb; clear hb)
   go_ret
   exact ⟨rfl, HB.out⟩
  | c :: t =>
   obtain ⟨s1, hs1⟩ : ∃ z, bs t = z := ⟨_, rfl⟩
   have hsz : s.size = t.length + 1 := by rw [← HS.out, bs_size]; rfl
   have h5 : (0 : Int) < (s.size : Nat) := by omega
   have h6 : 0 < s.size := by omega
   have h7 : (1 : Int) ≤ (s.size : Nat) := by omega
   have h8 : 1 ≤ s.size := by omega
   have g5 := decide_eq_true h5
   have g6 := decide_eq_true h6
   have hc0 : ∀ h, (s[0]'h).toNat = c.toNat := by rw [← HS.out]; exact fun h => rfl
   have hext : s.extract 1 s.size = s1 := by rw [← HS.out, bs_tail]; exact hs1
   obtain ⟨cv, hcv⟩ : ∃ z : Nat, c.toNat = z := ⟨_, rfl⟩
   rw [hcv] at hc0
   by_cases hc : c = 48
   ·subst hc
    have hcv2 : cv = 48 := by rw [← hcv]; rfl
    subst hcv2
    cases gk with
    | zero => exact absurd HK.out (by simp)
    | succ k =>
     have HS1 := md_ hs1
     have HK1 := md_ (show t.length ≤ k by have := HK.out; rw [List.length_cons] at this; omega)
     have HT1 := md_ (show trim0 t = trim0 l by rw [← HT.out, trim0_cons])
     clear hcv HS HK HT hs1 hsz
     go_wp2
     go_roundg k
     case measure => omega
     case rel => exact ⟨t, s1, by first | rfl | rw [hext], HS1, HK1, HT1, rfl⟩
   ·have e1 : ((cv : Int) == 48) = false := by
     rw [beq_eq_false_iff_ne]
     intro h
     exact hc (UInt8.toNat_inj.1 (by rw [hcv]; show cv = 48; omega))
    have e2 : ¬ (cv : Int) = 48 := beq_eq_false_iff_ne.1 e1
    have e3 : ¬ cv = 48 := by omega
    have e4 := decide_eq_false e2
    have e5 := decide_eq_false e3
    have e6 : ¬ s.toList = [] := by rw [← HS.out]; exact bs_ne
    have e7 : s.toList.isEmpty = false := by
     rw [Bool.eq_false_iff]
     intro h
     exact e6 (List.isEmpty_iff.1 h)
    have htr : trim0 l = c :: t := by rw [← HT.out, trim0_stop hc]
    have hdt : Num.digs (c :: t) = true := by rw [← htr]; exact trim_digs HD.out
    have hdec : Num.decL 0 (c :: t) = Num.decL 0 l := by rw [← htr, decL_trim]
    have hlen : (c :: t).length ≤ l.length := by rw [← htr]; exact trim_len l
    have hpos := trim_pos HD.out (by rw [htr]; simp)
    rw [htr] at hpos
    have hlt := Num.decL_lt (c :: t) (Num.digs_mem hdt)
    rw [hdec] at hlt
    obtain ⟨n, hn⟩ : ∃ z, (c :: t).length = z := ⟨_, rfl⟩
    rw [hn] at hpos hlt hlen
    have hsn : s.size = n := by rw [← hn, List.length_cons]; exact hsz
    have hn1 : 1 ≤ n := by rw [← hn, List.length_cons]; omega
    have hxx := HX.out
    have hll := HL.out
    obtain ⟨M, hM⟩ : ∃ z, Num.decL 0 l = z := ⟨_, rfl⟩
    rw [hM] at hpos hlt hdec
    have hres := HRES.out
    rw [hM] at hres
    obtain ⟨xs, hxs⟩ : ∃ z : Int, x + (s.size : Int) = z := ⟨_, rfl⟩
    have W1 := wrp (x := x + (s.size : Int)) (y := xs) (by omega)
    obtain ⟨w1, w2⟩ := W1.out
    clear W1
    have hM0 : 0 < M := Nat.lt_of_lt_of_le (Nat.pow_pos (by decide)) hpos
    have HB := md_ (Below.refl wr.heap.size wr)
    obtain ⟨H4, hH4⟩ : ∃ z, z = 400 := ⟨_, rfl⟩
    by_cases k1 : 400 < xs
    ·have d1 := decide_eq_true k1
     have hf : flt M x = 9218868437227405312 := flt_high (k := H4) (by omega) (by omega) (by
      have e1 : 10 ^ (n - 1) * 10 ^ x.toNat ≤ M * 10 ^ x.toNat := Nat.mul_le_mul_right _ hpos
      rw [← Nat.pow_add] at e1
      exact Nat.le_trans (Nat.pow_le_pow_right (by decide) (by omega)) e1)
     rw [hf] at hres
     have HO : Aside0 (∀ w, Calls Tryz.prog 42 #[.int .u64 1] w fun e w' => ∃ r, e = .returned r ∧ Nm w' r 1 ∧ Below w.heap.size w w') := ⟨fun w => r_Of w 1 (by decide)⟩
     have hb1 : Num.bitsN 1 = 1 := Num.bitsN_eq (by decide) (by decide)
     have hbig : mkN 1 3000 = 9218868437227405312 := mkN_big (by decide) (by unfold Flt.expo; rw [hb1]; omega)
     have HM : Aside0 (∀ (w : World) (v : Value), Nm w v 1 → Calls Tryz.prog 78 #[.bool neg, v, .int .i64 3000] w fun x w' => x = .returned (.int .u64 res) ∧ Below w.heap.size w w') := ⟨fun w v h => by
      have := r3_Make w neg 1 h (by rw [hb1]; decide) 3000
      rw [hbig, hres] at this
      exact this⟩
     clear hcv hc e3 hsz HS HK HT hs1 htr hdt hdec hlen hpos hlt hn hsn hn1 hxx hll hM hres hxs hM0 hf hb1 hbig k1 hH4 HRES
     go_wp2_with (first
      | (go_at_call 42; (with_reducible refine (HO.out _).mono ?_); rintro q w' ⟨v, rfl, hr, hb⟩; have HV := md_ hr; replace HB := bt_ HB hb; clear hb hr)
      | (go_at_call 78; (with_reducible refine (HM.out _ _ HV.out).mono ?_); rintro q w' ⟨rfl, hb⟩; replace HB := bt_ HB hb; clear hb))
     go_ret
     exact ⟨rfl, HB.out⟩
    have d1 := decide_eq_false k1
    by_cases k2 : xs < -400
    ·have d2 := decide_eq_true k2
     have hf : flt M x = 0 := flt_low (k := H4) (by omega) (by omega) (by
      have e1 : M * 10 ^ H4 ≤ 10 ^ n * 10 ^ H4 := Nat.mul_le_mul_right _ (by omega)
      rw [← Nat.pow_add] at e1
      exact Nat.le_trans e1 (Nat.pow_le_pow_right (by decide) (by omega)))
     rw [hf] at hres
     have HM : Aside0 (∀ w, Calls Tryz.prog 78 #[.bool neg, .slice none 0 0, .int .i64 0] w fun x w' => x = .returned (.int .u64 res) ∧ Below w.heap.size w w') := ⟨fun w => hres ▸ r3_Make_zero w neg (Nm.nil w) 0⟩
     clear hcv hc e3 hsz HS HK HT hs1 htr hdt hdec hlen hpos hlt hn hsn hn1 hxx hll hM hres hxs hM0 hf k1 k2 hH4 HRES
     go_wp2_with (go_at_call 78; (with_reducible refine (HM.out _).mono ?_); rintro q w' ⟨rfl, hb⟩; replace HB := bt_ HB hb; clear hb)
     go_ret
     exact ⟨rfl, HB.out⟩
    have d2 := decide_eq_false k2
    have hbn : M < 2 ^ (4 * n + 1) := Nat.lt_of_lt_of_le hlt (Nat.le_of_lt (ten_lt n))
    have fM : Fit M := fit_lt hbn (by omega)
    have hpar : bs (c :: t) = s := HS.out
    have HP : Aside0 (∀ w, Calls Tryz.prog 79 #[.string s] w fun e w' => ∃ v, e = .returned (.tuple #[v, .int .i64 0]) ∧ Nm w' v M ∧ Below w.heap.size w w') := ⟨fun w => by
     have h := r_Parse (w := w) (bs (c :: t)) hdt (by show c :: t ≠ []; simp) (by show (c :: t).length ≤ 5000; omega) (by show Fit (Num.decL 0 (c :: t)); rw [hdec]; exact fM)
     rw [show Num.decL 0 (bs (c :: t)).data.toList = M from hdec, hpar] at h
     exact h⟩
    by_cases k3 : 0 ≤ x
    ·have d3 := decide_eq_true k3
     have HT2 := md_ (fun w => r4_Power w x (by omega))
     have bt := ten_lt x.toNat
     have bm := mul_lt_pow hbn bt
     have fm : Fit (M * 10 ^ x.toNat) := fit_lt bm (by omega)
     have HMU := md_ (fun (w : World) (u v : Value) (h : Nm w u M) (g : Nm w v (10 ^ x.toNat)) => r_Mul h g fM (fit_lt bt (by omega)) fm)
     have bb : Num.bitsN (M * 10 ^ x.toNat) ≤ 31000 := Nat.le_trans (bits_lt bm) (by omega)
     have hf : flt M x = mkN (M * 10 ^ x.toNat) 0 := by
      unfold flt
      rw [if_neg (by omega), if_pos k3, fl_one (Nat.mul_pos hM0 (Nat.pow_pos (by decide)))]
     rw [hf] at hres
     have HM : Aside0 (∀ (w : World) (v : Value), Nm w v (M * 10 ^ x.toNat) → Calls Tryz.prog 78 #[.bool neg, v, .int .i64 0] w fun x w' => x = .returned (.int .u64 res) ∧ Below w.heap.size w w') := ⟨fun w v h => by
      have := r3_Make w neg _ h bb 0
      rw [hres] at this
      exact this⟩
     obtain ⟨P, hP⟩ : ∃ z, 10 ^ x.toNat = z := ⟨_, rfl⟩
     rw [hP] at HT2 HMU HM
     clear hcv hc e3 hsz HS HK HT hs1 htr hdt hdec hlen hpos hlt hn hsn hn1 hxx hll hM hres hxs hM0 hf k1 k2 k3 hH4 HRES hbn fM hpar bt bm fm bb hP
     go_wp2_with (first
      | (go_at_call 79; (with_reducible refine (HP.out _).mono ?_); rintro q w' ⟨v, rfl, hr, hb⟩; have HV := md_ hr; replace HB := bt_ HB hb; clear hb hr)
      | (go_at_call 81; (with_reducible refine (HT2.out _).mono ?_); rintro q w' ⟨p, rfl, hr, hb⟩; have HPW := md_ hr; have k0_ := md_ (HV.out.below hb); have n0_ := md_ (below_step HB.out hb); clear HB hb hr HV; have HB := n0_; have HV := k0_; clear n0_ k0_)
      | (go_at_call 80; (with_reducible refine (HMU.out _ _ _ HV.out HPW.out).mono ?_); rintro q w' ⟨v2, rfl, hr, hb⟩; have HV2 := md_ hr; replace HB := bt_ HB hb; clear hb hr)
      | (go_at_call 78; (with_reducible refine (HM.out _ _ HV2.out).mono ?_); rintro q w' ⟨rfl, hb⟩; replace HB := bt_ HB hb; clear hb))
     go_ret
     exact ⟨rfl, HB.out⟩
    ·have d3 := decide_eq_false k3
     obtain ⟨nx, hnx⟩ : ∃ z : Int, -x = z := ⟨_, rfl⟩
     have W2 := wrp (x := -x) (y := nx) (by omega)
     have HT2 := md_ (fun w => r4_Power w nx (by omega))
     have bt := ten_lt nx.toNat
     have hp10 : 0 < 10 ^ nx.toNat := Nat.pow_pos (by decide)
     have HQ := md_ (fun (w : World) (u v : Value) (h : Nm w u M) (g : Nm w v (10 ^ nx.toNat)) => r3_Quotient w neg h g hM0 hp10 (Nat.le_trans (bits_lt hbn) (by omega)) (Nat.le_trans (bits_lt bt) (by omega)))
     have hf : flt M x = fl M (10 ^ nx.toNat) := by
      unfold flt
      rw [if_neg (by omega), if_neg k3, hnx]
     rw [hf] at hres
     rw [hres] at HQ
     obtain ⟨P, hP⟩ : ∃ z, 10 ^ nx.toNat = z := ⟨_, rfl⟩
     rw [hP] at HT2 HQ
     clear hcv hc e3 hsz HS HK HT hs1 htr hdt hdec hlen hpos hlt hn hsn hn1 hxx hll hM hres hxs hM0 hf k1 k2 k3 hH4 HRES hbn fM hpar bt hp10 hP hnx
     obtain ⟨w3, w4⟩ := W2.out
     clear W2
     go_wp2_with (first
      | (go_at_call 79; (with_reducible refine (HP.out _).mono ?_); rintro q w' ⟨v, rfl, hr, hb⟩; have HV := md_ hr; replace HB := bt_ HB hb; clear hb hr)
      | (go_at_call 81; (with_reducible refine (HT2.out _).mono ?_); rintro q w' ⟨p, rfl, hr, hb⟩; have HPW := md_ hr; have k0_ := md_ (HV.out.below hb); have n0_ := md_ (below_step HB.out hb); clear HB hb hr HV; have HB := n0_; have HV := k0_; clear n0_ k0_)
      | (go_at_call 82; (with_reducible refine (HQ.out _ _ _ HV.out HPW.out).mono ?_); rintro q w' ⟨rfl, hb⟩; replace HB := bt_ HB hb; clear hb))
     go_ret
     exact ⟨rfl, HB.out⟩
end Go.Proofs.YtdoeigngpemcgaaGreatDoor.Dec
namespace Go.Read
open Go.Proofs.YtdoeigngpemcgaaGreatDoor Go.Proofs.YtdoeigngpemcgaaGreatDoor.Dec
theorem q3_drop (l : List UInt8) : l.drop (l.length - (q3 l).length) = q3 l := by
 have key : ∃ i, i ≤ l.length ∧ l.drop i = q3 l := by
  have h2 := q2_drop l
  obtain ⟨a, ha⟩ : ∃ a, (if hasM [43, 45] l then 1 else 0) + (qA l).length = a := ⟨_, rfl⟩
  rw [ha] at h2
  have hal : a ≤ l.length := by
   have h3 : (qA l).length ≤ (q1 l).length := dg_len (q1 l)
   have h4 : (q1 l).length = l.length - (if hasM [43, 45] l then 1 else 0) := by rw [← q1_drop l, List.length_drop]
   rw [← ha]
   rcases Nat.eq_zero_or_pos l.length with z | z
   ·have : l = [] := List.eq_nil_of_length_eq_zero z
    subst this
    decide
   ·by_cases hb : hasM [43, 45] l = true
    ·rw [if_pos hb] at h4 ⊢
     omega
    ·rw [if_neg hb] at h4 ⊢
     omega
  unfold q3
  by_cases hp : qp l = true
  ·rw [if_pos hp]
   unfold qp hasM at hp
   match hm : q2 l with
   | [] => rw [hm] at hp; cases hp
   | x :: r =>
    rw [hm] at h2
    obtain ⟨f1, f2, _⟩ := drop_more h2
    refine ⟨a + 1 + (dg r).length, ?_, ?_⟩
    ·have := dg_len r
     rw [← f2, List.length_drop] at this
     rw [f2] at this
     omega
    ·rw [← List.drop_drop, f2]
     exact past_drop r
  ·rw [if_neg hp]
   exact ⟨a, hal, h2⟩
 obtain ⟨i, h1, h2⟩ := key
 rw [← drop_len h2 h1]
 exact h2
theorem after_drop (of : List UInt8) {l m : List UInt8} {i : Nat} (h : l.drop i = m) (hi : i ≤ l.length) : l.drop (i + (if hasM of m then 1 else 0)) = after of m ∧ i + (if hasM of m then 1 else 0) ≤ l.length := by
 unfold after
 cases m with
 | nil => exact ⟨h, hi⟩
 | cons c t =>
  obtain ⟨f1, f2, _⟩ := drop_more h
  split
  ·exact ⟨f2, f1⟩
  ·exact ⟨h, hi⟩
end Go.Read
namespace Go.Proofs.YtdoeigngpemcgaaGreatDoor.Dec
open Go.RowKit Go.Flt Go.Read Go.Proofs.YtdoeigngpemcgaaGreatDoor.PDec Go.Proofs.YtdoeigngpemcgaaGreatDoor.Pure Go.Proofs.YtdoeigngpemcgaaGreatDoorW.PrintWords Go.Proofs.YtdoeigngpemcgaaGreatDoorW.PrintLast Go.Proofs.YtdoeigngpemcgaaGreatDoorW.PrintMore
theorem past_all {l : List UInt8} (h : past l = []) : dg l = l := by
 have := dg_past l
 rw [h, List.append_nil] at this
 exact this
theorem past_len_iff (l : List UInt8) : (dg l).length = l.length ↔ past l = [] := by
 have := two_len l
 constructor
 ·intro h
  exact List.eq_nil_of_length_eq_zero (by omega)
 ·intro h
  rw [h, List.length_nil] at this
  omega
set_option maxRecDepth 100000 in
theorem r4_Parse_long (w : World) (l : List UInt8) (h : 400 < l.length) : Calls Tryz.prog 11 #[.string (bs l)] w fun e w' => e = .returned (.tuple #[.int .u64 0, .bool false]) ∧ Below w.heap.size w w' := by
 obtain ⟨s, hs⟩ : ∃ s, bs l = s := ⟨_, rfl⟩
 have c1 := decide_eq_true (show (400 : Int) < (s.size : Nat) by rw [← hs, bs_size]; omega)
 have c2 := decide_eq_true (show 400 < s.size by rw [← hs, bs_size]; omega)
 rw [hs]
 clear hs h
 go_enter Tryz.func11, Tryz.ntmps11
 go_wp2
 go_ret2
 exact ⟨rfl, Below.refl _ _⟩
set_option maxRecDepth 100000 in
theorem r4_Parse_short (w : World) (l : List UInt8) (hl : l.length ≤ 400) : Calls Tryz.prog 11 #[.string (bs l)] w fun e w' => e = .returned (.tuple #[.int .u64 ((parseN l).1 : Nat), .bool (parseN l).2]) ∧ Below w.heap.size w w' := by
 obtain ⟨r1, hr1⟩ : ∃ z : Int, ((parseN l).1 : Int) = z := ⟨_, rfl⟩
 obtain ⟨r2, hr2⟩ : ∃ z, (parseN l).2 = z := ⟨_, rfl⟩
 have HR := md_ (show ((parseN l).1 : Int) = r1 ∧ (parseN l).2 = r2 from ⟨hr1, hr2⟩)
 rw [hr1, hr2]
 obtain ⟨s, hs⟩ : ∃ s, bs l = s := ⟨_, rfl⟩
 have HS := md_ hs
 have hsz : s.size = l.length := by rw [← hs, bs_size]
 have HM := md_ (fun w => r4_mantissa w l (by omega) true)
 have HL := md_ (show l.length ≤ 400 ∧ s.size = l.length from ⟨hl, hsz⟩)
 have c1 := decide_eq_false (show ¬ (400 : Int) < (s.size : Nat) by omega)
 have c2 := decide_eq_false (show ¬ 400 < s.size by omega)
 rw [hs] at HM
 rw [hs]
 clear hr1 hr2 hs hsz hl
 go_enter Tryz.func11, Tryz.ntmps11
 go_wp2
 go_loopg [4, 5] l.length (fun kq v4 v5 wr => ∃ (i : Nat) (b : Bool), v4 = .bool b ∧ v5 = .int .i64 (i : Int) ∧ Aside0 (i + kq = l.length) ∧ Aside0 ((l.take i).all (· == 32) = b) ∧ wr = w)
 case atStart => exact ⟨0, true, rfl, rfl, ⟨Nat.zero_add _⟩, ⟨by rw [List.take_zero]; rfl⟩, rfl⟩
 case round =>
  clear c1 c2
  obtain ⟨i, b, rfl, rfl, HK, HBL, rfl⟩ := hrel
  have hall := HL.out
  have hkk := HK.out
  cases gk with
  | succ j =>
   have hil : i < l.length := by omega
   have hst : (l.take (i + 1)).all (· == 32) = (b && (l[i] == 32)) := by
    rw [List.take_succ_eq_append_getElem hil, List.all_append, HBL.out]
    simp
   have hg := bs_at HS.out (i := i) (c := l[i]) (fun _ => rfl)
   obtain ⟨cv, hcv⟩ : ∃ z, (l[i]).toNat = z := ⟨_, rfl⟩
   rw [hcv] at hg
   obtain ⟨b2, hb2⟩ : ∃ z, (l[i] == 32) = z := ⟨_, rfl⟩
   have n3 : ((cv : Int) == 32) = b2 := by
    rw [← hb2, ← hcv, Bool.eq_iff_iff, beq_iff_eq, beq_iff_eq]
    constructor
    ·intro h
     exact UInt8.toNat_inj.1 (by show (l[i]).toNat = 32; omega)
    ·intro h
     rw [h]
     rfl
   have n4 : decide (cv = 32) = b2 := by
    rw [← n3, Bool.eq_iff_iff, beq_iff_eq, decide_eq_true_iff]
    omega
   rw [hb2] at hst
   have d1 := decide_eq_true (show i < s.size by omega)
   have d2 := decide_eq_true (show (i : Int) < (s.size : Nat) by omega)
   have d3 : (0 : Int) ≤ (i : Int) := by omega
   have d4 : (i : Int) < (s.size : Nat) := by omega
   have d5 : i < s.size := by omega
   have W1 := wrp (x := (i : Int) + 1) (y := ((i + 1 : Nat) : Int)) (by omega)
   have HK2 := md_ (show i + 1 + j = l.length by omega)
   have HB2 := md_ hst
   obtain ⟨w1, w2⟩ := W1.out
   clear W1 hall hkk hil hst hcv hb2
   cases b with
   | false =>
    go_wp2
    go_roundg j
    case measure => omega
    case rel => exact ⟨i + 1, false, rfl, by first | rfl | rw [w1] | rw [w2], HK2, ⟨by rw [HB2.out]; rfl⟩, rfl⟩
   | true =>
    go_wp2
    go_roundg j
    case measure => omega
    case rel => exact ⟨i + 1, b2, by first | rfl | rw [n3] | rw [n4], by first | rfl | rw [w1] | rw [w2], HK2, ⟨by rw [HB2.out]; rfl⟩, rfl⟩
  | zero =>
   have hi : i = l.length := hkk
   have i1 := decide_eq_false (show ¬ i < s.size by omega)
   have i2 := decide_eq_false (show ¬ (i : Int) < (s.size : Nat) by omega)
   have hbl := HBL.out
   rw [hi, List.take_length] at hbl
   obtain ⟨hr1, hr2⟩ := HR.out
   unfold parseN at hr1 hr2
   rw [if_neg (by omega), hbl] at hr1 hr2
   cases b with
   | true =>
    rw [if_pos rfl] at hr1 hr2
    have e1 : r1 = 0 := hr1.symm
    have e2 : r2 = true := hr2.symm
    subst e1
    subst e2
    clear hall hkk hi hbl hr1 hr2
    go_wp2
    go_ret2
    exact ⟨rfl, Below.refl _ _⟩
   | false =>
    rw [if_neg (by decide)] at hr1 hr2
    have hmb : manBad l true = decide (qA l ++ qB l = []) := rfl
    rw [hmb] at HM
    by_cases hbad : qA l ++ qB l = []
    ·rw [if_pos hbad] at hr1 hr2
     rw [decide_eq_true hbad, if_pos rfl] at HM
     have e1 : r1 = 0 := hr1.symm
     have e2 : r2 = false := hr2.symm
     subst e1
     subst e2
     clear hall hkk hi hbl hr1 hr2 hmb hbad
     go_wp2_with (go_at_call 32; (with_reducible refine (HM.out _).mono ?_); rintro q w' ⟨rfl, hw⟩; obtain rfl := hw.symm)
     go_ret2
     exact ⟨rfl, Below.refl _ _⟩
    rw [if_neg hbad] at hr1 hr2
    rw [decide_eq_false hbad, if_neg (by decide)] at HM
    have hdr := q3_drop l
    have hq := q_len l
    have hdig : Num.digs (qA l ++ qB l) = true := digs_app (dg_digs _) (qB_digs l)
    have hD := Num.decL_lt _ (Num.digs_mem hdig)
    obtain ⟨neg, hneg⟩ : ∃ z, minus l = z := ⟨_, rfl⟩
    obtain ⟨sD, hsD⟩ : ∃ z, bs (qA l ++ qB l) = z := ⟨_, rfl⟩
    obtain ⟨bh, hbh⟩ : ∃ z, (qB l).length = z := ⟨_, rfl⟩
    obtain ⟨a, ha⟩ : ∃ z, l.length - (q3 l).length = z := ⟨_, rfl⟩
    have hDl : (qA l ++ qB l).length = (qA l).length + bh := by rw [List.length_append, hbh]
    rw [hneg, hsD, hbh, ha] at HM
    rw [hneg, hbh] at hr1
    rw [ha] at hdr
    have hal : a ≤ l.length := by omega
    have HV := md_ (fun (w : World) (x : Int) (h1 : -2000000 ≤ x) (h2 : x ≤ 2000000) => r4_value w neg (qA l ++ qB l) hdig (by omega) x h1 h2)
    rw [hsD] at HV
    obtain ⟨D, hDD⟩ : ∃ z, Num.decL 0 (qA l ++ qB l) = z := ⟨_, rfl⟩
    rw [hDD] at HV hD hr1
    have HDD := md_ (show D < 10 ^ (qA l ++ qB l).length ∧ (qA l ++ qB l).length ≤ 400 ∧ bh ≤ 400 from ⟨hD, by omega, by omega⟩)
    have k0 := decide_eq_false (show ¬ (a : Int) < 0 by omega)
    clear hi hbl hmb hbad hdig hsD hbh hDl hDD hneg hD
    match hm : q3 l with
    | [] =>
     rw [hm] at hdr
     have hsa : a = s.size := by have := drop_len hdr hal; rw [this, List.length_nil]; omega
     have hqx : qx l = 0 ∧ q6 l = [] := by
      have e4 : q4 l = [] := by unfold q4; rw [hm]; rfl
      have e5 : q5 l = [] := by unfold q5; rw [e4]; rfl
      have eE : qE l = false := by unfold qE; rw [hm]; rfl
      have eS : qS l = false := by unfold qS; rw [e4]; rfl
      unfold qx q6
      rw [eE, eS, e5]
      exact ⟨rfl, rfl⟩
     rw [hqx.2, if_pos rfl, hqx.1] at hr1
     rw [hqx.2, if_pos rfl] at hr2
     have e2 : r2 = true := hr2.symm
     subst e2
     have hr3 : ((sg neg (flt D (0 - (bh : Int))) : Nat) : Int) = r1 := hr1
     have HV2 := md_ (fun w => HV.out w (0 - (bh : Int)) (by have := HDD.out; omega) (by omega))
     rw [hr3] at HV2
     have d1 := decide_eq_false (show ¬ a < s.size by omega)
     have d2 := decide_eq_false (show ¬ (a : Int) < (s.size : Nat) by omega)
     have W1 := wrp (x := 0 - (bh : Int)) (y := 0 - (bh : Int)) (by have := HDD.out; omega)
     obtain ⟨xv, hxv⟩ : ∃ z : Int, 0 - (bh : Int) = z := ⟨_, rfl⟩
     rw [hxv] at HV2
     have W2 := wrp (x := 0 - (bh : Int)) (y := xv) (by have := HDD.out; omega)
     have W3 := wrp (x := -(bh : Int)) (y := xv) (by have := HDD.out; omega)
     clear hall hkk hr1 hr2 hr3 hdr hq ha hal hm hsa hqx hxv HV W1 HDD
     obtain ⟨w1, w2⟩ := W2.out
     obtain ⟨w3, w4⟩ := W3.out
     clear W2 W3
     go_wp2_with (first
      | (go_at_call 32; (with_reducible refine (HM.out _).mono ?_); rintro q w' ⟨rfl, hw⟩; obtain rfl := hw.symm)
      | (go_at_call 35; (with_reducible refine (HV2.out _).mono ?_); rintro q w' ⟨rfl, hb⟩; have HB := md_ hb; clear hb))
     go_ret2
     exact ⟨rfl, HB.out⟩
    | c :: t =>
     rw [hm] at hdr
     obtain ⟨f1, f2, f3⟩ := drop_more hdr
     have hg := bs_at HS.out f3
     obtain ⟨mk, hmk⟩ : ∃ z, qE l = z := ⟨_, rfl⟩
     have hmk2 : hasM [69, 101, 68, 100] (c :: t) = mk := by rw [← hmk]; unfold qE; rw [hm]
     obtain ⟨g1, g2⟩ := after_drop [69, 101, 68, 100] hdr hal
     rw [hmk2] at g1 g2
     have e4 : after [69, 101, 68, 100] (c :: t) = q4 l := by unfold q4; rw [hm]
     rw [e4] at g1
     obtain ⟨a4, ha4⟩ : ∃ z, a + (if mk then 1 else 0) = z := ⟨_, rfl⟩
     rw [ha4] at g1 g2
     obtain ⟨sb, hsb⟩ : ∃ z, qS l = z := ⟨_, rfl⟩
     have hsb2 : hasM [43, 45] (q4 l) = sb := hsb
     obtain ⟨g3, g4⟩ := after_drop [43, 45] g1 g2
     rw [hsb2] at g3 g4
     have e5 : after [43, 45] (q4 l) = q5 l := rfl
     rw [e5] at g3
     obtain ⟨a5, ha5⟩ : ∃ z, a4 + (if sb then 1 else 0) = z := ⟨_, rfl⟩
     rw [ha5] at g3 g4
     have HD3 := md_ (fun w => r4_digits w l (by omega) a5 g4)
     rw [g3, HS.out] at HD3
     have hl5 := drop_len g3 g4
     have hq5 : (q5 l).length ≤ 400 := by rw [← g3, List.length_drop]; omega
     have y5 : s.extract a5 s.size = bs (q5 l) := by rw [← HS.out, bs_from, g3]
     obtain ⟨dn, hdn⟩ : ∃ z, qm l = z := ⟨_, rfl⟩
     obtain ⟨nd, hnd⟩ : ∃ z, (dg (q5 l)).length = z := ⟨_, rfl⟩
     rw [hnd] at HD3
     have hpl := past_len_iff (q5 l)
     rw [hnd] at hpl
     have HE := md_ (show a < s.size ∧ a4 ≤ s.size ∧ a5 ≤ s.size ∧ s.size ≤ 400 ∧ s.size - a5 = (q5 l).length by
      rw [hall.2]
      refine ⟨f1, g2, g4, hall.1, ?_⟩
      rw [← g3, List.length_drop])
     have HA4 := md_ (show a + (if mk then 1 else 0) = a4 ∧ a4 + (if sb then 1 else 0) = a5 from ⟨ha4, ha5⟩)
     have HG1 := md_ g1
     have HMK := md_ hmk2
     have HSB := md_ hsb2
     have HDN := md_ (show minus (q4 l) = dn from hdn)
     have HPL := md_ hpl
     have HY5 := md_ y5
     have HQX : Aside0 (q6 l = (if mk || sb then past (q5 l) else q5 l) ∧ qx l = (if mk || sb then Go.Read.expo dn (dg (q5 l)) else 0)) := ⟨by
      unfold q6 qx
      rw [hmk, hsb, hdn]
      exact ⟨rfl, rfl⟩⟩
     have HQ5 := md_ hq5
     have HH1 := md_ hr1
     have HH2 := md_ hr2
     have HC := md_ (show ∀ k, (s[a]'k).toNat = c.toNat from hg)
     have HNE := md_ (show mk = false → sb = false → q5 l ≠ [] from fun h1 h2 => by
      rw [← e5]
      unfold after
      rw [hsb2, h2]
      show q4 l ≠ []
      rw [← e4]
      unfold after
      rw [hmk2, h1]
      simp)
     have b1 : (0 : Int) ≤ (a : Int) := by omega
     have b2 : (a : Int) < (s.size : Nat) := by omega
     have b3 := decide_eq_true (show a < s.size by omega)
     have b4 := decide_eq_true b2
     clear hall hkk hr1 hr2 hdr hq ha hal hm f1 f2 f3 hg hmk hmk2 g1 g2 e4 ha4 hsb hsb2 g3 g4 e5 ha5 hl5 hq5 y5 hdn hnd hpl
     go_upto_region 15 with (go_at_call 32; (with_reducible refine (HM.out _).mono ?_); rintro q w' ⟨rfl, hw⟩; obtain rfl := hw.symm)
     go_cut [11] (fun v11 wx => v11 = .bool mk ∧ wx = wr)
     case first =>
      have hg := HC.out
      have hmk := HMK.out
      by_cases k1 : c = 69
      ·subst k1
       have e : mk = true := hmk.symm
       subst e
       rw [show (69 : UInt8).toNat = 69 from rfl] at hg
       clear hmk
       go_wp2
       go_meet
       case rel => exact ⟨rfl, rfl⟩
      by_cases k2 : c = 101
      ·subst k2
       have e : mk = true := hmk.symm
       subst e
       rw [show (101 : UInt8).toNat = 101 from rfl] at hg
       clear hmk
       go_wp2
       go_meet
       case rel => exact ⟨rfl, rfl⟩
      by_cases k3 : c = 68
      ·subst k3
       have e : mk = true := hmk.symm
       subst e
       rw [show (68 : UInt8).toNat = 68 from rfl] at hg
       clear hmk
       go_wp2
       go_meet
       case rel => exact ⟨rfl, rfl⟩
      by_cases k4 : c = 100
      ·subst k4
       have e : mk = true := hmk.symm
       subst e
       rw [show (100 : UInt8).toNat = 100 from rfl] at hg
       clear hmk
       go_wp2
       go_meet
       case rel => exact ⟨rfl, rfl⟩
      ·have e : mk = false := by
        rw [← hmk]
        unfold hasM
        simp [k1, k2, k3, k4]
       subst e
       obtain ⟨cv, hcv⟩ : ∃ z, c.toNat = z := ⟨_, rfl⟩
       rw [hcv] at hg
       have n1 : cv ≠ 69 := by rw [← hcv]; exact u8_ne (by decide) k1
       have n2 : cv ≠ 101 := by rw [← hcv]; exact u8_ne (by decide) k2
       have n3 : cv ≠ 68 := by rw [← hcv]; exact u8_ne (by decide) k3
       have n4 : cv ≠ 100 := by rw [← hcv]; exact u8_ne (by decide) k4
       have m1 : ((cv : Int) == 69) = false := beq_ff n1
       have m2 : ((cv : Int) == 101) = false := beq_ff n2
       have m3 : ((cv : Int) == 68) = false := beq_ff n3
       have m4 : ((cv : Int) == 100) = false := beq_ff n4
       clear hmk hcv k1 k2 k3 k4
       go_wp2
       go_meet
       case rel => exact ⟨rfl, rfl⟩
     case rest =>
     obtain ⟨rfl, hw⟩ := hcut
     obtain rfl := hw.symm
     clear hw
     go_upto_if 65 with (fail)
     go_cut [9] (fun v9 wx => v9 = .int .i64 (a4 : Int) ∧ wx = wr)
     case first =>
      have h4 := HA4.out.1
      have hee := HE.out
      cases mk with
      | false =>
       have e : a = a4 := h4
       subst e
       clear h4 hee
       go_wp2
       go_meet
       case rel => exact ⟨rfl, rfl⟩
      | true =>
       have e : a + 1 = a4 := h4
       have W1 := wrp (x := (a : Int) + 1) (y := (a4 : Int)) (by omega)
       obtain ⟨w1, w2⟩ := W1.out
       clear h4 hee e W1
       go_wp2
       go_meet
       case rel => exact ⟨by first | rfl | rw [w1] | rw [w2], rfl⟩
     case rest =>
     obtain ⟨rfl, hw⟩ := hcut
     obtain rfl := hw.symm
     clear hw
     go_upto_region 19 with (fail)
     go_cut [83] (fun v83 wx => v83 = .bool sb ∧ wx = wr)
     case first =>
      have hsb := HSB.out
      have hg1 := HG1.out
      have hall := HL.out
      have hee := HE.out
      match hq4 : q4 l with
      | [] =>
       rw [hq4] at hsb hg1
       have e : sb = false := hsb.symm
       subst e
       have hlen : a4 = s.size := by have := drop_len hg1 (by omega); rw [this, List.length_nil]; omega
       have d1 := decide_eq_false (show ¬ a4 < s.size by omega)
       have d2 := decide_eq_false (show ¬ (a4 : Int) < (s.size : Nat) by omega)
       clear hsb hg1 hall hee hlen hq4
       go_wp2
       go_meet
       case rel => exact ⟨rfl, rfl⟩
      | x :: r =>
       rw [hq4] at hsb hg1
       obtain ⟨p1, p2, p3⟩ := drop_more hg1
       have hg := bs_at HS.out p3
       have d1 := decide_eq_true (show a4 < s.size by omega)
       have d2 := decide_eq_true (show (a4 : Int) < (s.size : Nat) by omega)
       have d3 : a4 < s.size := by omega
       have d4 : (a4 : Int) < (s.size : Nat) := by omega
       have d5 : (0 : Int) ≤ (a4 : Int) := by omega
       by_cases k1 : x = 45
       ·subst k1
        have e : sb = true := hsb.symm
        subst e
        rw [show (45 : UInt8).toNat = 45 from rfl] at hg
        clear hsb hg1 hall hee hq4 p1 p2 p3
        go_wp2
        go_meet
        case rel => exact ⟨rfl, rfl⟩
       by_cases k2 : x = 43
       ·subst k2
        have e : sb = true := hsb.symm
        subst e
        rw [show (43 : UInt8).toNat = 43 from rfl] at hg
        clear hsb hg1 hall hee hq4 p1 p2 p3
        go_wp2
        go_meet
        case rel => exact ⟨rfl, rfl⟩
       ·have e : sb = false := by
         rw [← hsb]
         unfold hasM
         simp [k1, k2]
        subst e
        obtain ⟨cv, hcv⟩ : ∃ z, x.toNat = z := ⟨_, rfl⟩
        rw [hcv] at hg
        have n1 : cv ≠ 45 := by rw [← hcv]; exact u8_ne (by decide) k1
        have n2 : cv ≠ 43 := by rw [← hcv]; exact u8_ne (by decide) k2
        have m1 : ((cv : Int) == 45) = false := beq_ff n1
        have m2 : ((cv : Int) == 43) = false := beq_ff n2
        clear hsb hg1 hall hee hq4 p1 p2 p3 hcv k1 k2
        go_wp2
        go_meet
        case rel => exact ⟨rfl, rfl⟩
     case rest =>
     obtain ⟨rfl, hw⟩ := hcut
     obtain rfl := hw.symm
     clear hw
     have hr1 := HH1.out
     have hr2 := HH2.out
     obtain ⟨x1, x2⟩ := HQX.out
     rw [x1] at hr1 hr2
     by_cases hms : mk = false ∧ sb = false
     ·obtain ⟨hm0, hs0⟩ := hms
      have hne := HNE.out hm0 hs0
      subst hm0
      subst hs0
      rw [show (false || false) = false from rfl, if_neg Bool.false_ne_true, if_neg hne] at hr1 hr2
      have z1 : r1 = 0 := hr1.symm
      have z2 : r2 = false := hr2.symm
      subst z1
      subst z2
      clear x1 x2 hne hr1 hr2
      go_wp2
      go_ret2
      exact ⟨rfl, Below.refl _ _⟩
     have hor : (mk || sb) = true := by
      cases mk <;> cases sb <;> simp at hms ⊢
     rw [hor, if_pos rfl] at hr1 hr2 x2
     rw [x2] at hr1
     have hee := HE.out
     have h4 := HA4.out
     have hdn := HDN.out
     have hpl := HPL.out
     obtain ⟨ln, hln⟩ : ∃ z : Int, (s.size : Int) - (a5 : Int) = z := ⟨_, rfl⟩
     have W6 := wrp (x := (s.size : Int) - (a5 : Int)) (y := ln) (by omega)
     have hfin : (¬ past (q5 l) = [] ∧ ((nd : Int) == ln) = false ∧ ((nd : Int) != ln) = true ∧ r1 = 0 ∧ r2 = false) ∨ (past (q5 l) = [] ∧ ((nd : Int) == ln) = true ∧ ((nd : Int) != ln) = false ∧ r2 = true ∧ ((sg neg (flt D (Go.Read.expo dn (q5 l) - (bh : Int))) : Nat) : Int) = r1) := by
      by_cases hp : past (q5 l) = []
      ·right
       have e := hpl.2 hp
       rw [hp, if_pos rfl, past_all hp] at hr1
       rw [hp, if_pos rfl] at hr2
       have e2 : (nd : Int) = ln := by omega
       exact ⟨hp, beq_iff_eq.2 e2, by rw [bne_eq_false_iff_eq]; exact e2, hr2.symm, hr1⟩
      ·left
       rw [if_neg hp] at hr1 hr2
       have e2 : (nd : Int) ≠ ln := by
        intro h
        exact hp (hpl.1 (by omega))
       exact ⟨hp, beq_eq_false_iff_ne.2 e2, bne_iff_ne.2 e2, hr1.symm, hr2.symm⟩
     have HFIN := md_ hfin
     obtain ⟨w1, w2⟩ := W6.out
     have b5 : (0 : Int) ≤ (a5 : Int) := by omega
     have b6 : (a5 : Int) ≤ (s.size : Nat) := by omega
     clear hr1 hr2 x1 x2 hor hpl hfin W6 hee hln
     go_upto_if 83 with (fail)
     go_cut [9, 12] (fun v9 v12 wx => v9 = .int .i64 (a5 : Int) ∧ v12 = .bool dn ∧ wx = wr)
     case first =>
      have hall := HL.out
      have hg1 := HG1.out
      cases sb with
      | false =>
       have e : a4 = a5 := h4.2
       subst e
       have hmt : mk = true := by
        cases mk with
        | true => rfl
        | false => exact absurd ⟨rfl, rfl⟩ hms
       subst hmt
       have hd0 : dn = false := by
        rw [← hdn]
        have hsb := HSB.out
        cases hq4 : q4 l with
        | nil => rfl
        | cons c t =>
         rw [hq4] at hsb
         have hsb2 : ([43, 45] : List UInt8).contains c = false := hsb
         show (c == 45) = false
         rw [beq_eq_false_iff_ne]
         rintro rfl
         clear hsb
         revert hsb2
         decide
       subst hd0
       clear hall hg1 h4 hdn hms
       go_wp2
       go_meet
       case rel => exact ⟨rfl, rfl, rfl⟩
      | true =>
       have e : a4 + 1 = a5 := h4.2
       have hsb := HSB.out
       match hq4 : q4 l with
       | [] => rw [hq4] at hsb; cases hsb
       | x :: r =>
        rw [hq4] at hg1 hdn
        obtain ⟨p1, p2, p3⟩ := drop_more hg1
        have hg := bs_at HS.out p3
        have d3 : a4 < s.size := by omega
        have d4 : (a4 : Int) < (s.size : Nat) := by omega
        have d5 : (0 : Int) ≤ (a4 : Int) := by omega
        have hne : (x == 45) = dn := hdn
        obtain ⟨cv, hcv⟩ : ∃ z, x.toNat = z := ⟨_, rfl⟩
        rw [hcv] at hg
        have n3 : ((cv : Int) == 45) = dn := by
         rw [← hne, ← hcv, Bool.eq_iff_iff, beq_iff_eq, beq_iff_eq]
         constructor
         ·intro h
          exact UInt8.toNat_inj.1 (by show x.toNat = 45; omega)
         ·rintro rfl
          rfl
        have n4 : decide (cv = 45) = dn := by
         rw [← n3, Bool.eq_iff_iff, beq_iff_eq, decide_eq_true_iff]
         omega
        have W1 := wrp (x := (a4 : Int) + 1) (y := (a5 : Int)) (by omega)
        obtain ⟨w3, w4⟩ := W1.out
        clear hall hg1 h4 hdn hms hsb hq4 p1 p2 p3 hne hcv e W1
        go_wp2
        go_meet
        case rel => exact ⟨by first | rfl | rw [w3] | rw [w4], by first | rfl | rw [n3] | rw [n4], rfl⟩
     case rest =>
     obtain ⟨rfl, rfl, hw⟩ := hcut
     obtain rfl := hw.symm
     clear hw h4 hdn hms
     rcases HFIN.out with ⟨hp, m1, m2, rfl, rfl⟩ | ⟨hp, m1, m2, rfl, hr1⟩
     ·have m3 : ¬ (nd : Int) = ln := beq_eq_false_iff_ne.1 m1
      clear hp
      go_wp2_with (go_at_call 33; (with_reducible refine (HD3.out _).mono ?_); rintro q w' ⟨rfl, hw⟩; obtain rfl := hw.symm)
      go_ret2
      exact ⟨rfl, Below.refl _ _⟩
     ·have hdq : Num.digs (q5 l) = true := by rw [← past_all hp]; exact dg_digs _
      have HNU := md_ (fun w => r4_number w (q5 l) hdq HQ5.out)
      have hnlt := numR_lt (q5 l) 0 hdq (by decide)
      have hsame := same_flt hdq HDD.out.1 HDD.out.2.1 dn (b := (bh : Int)) (by omega) (by have := HDD.out; omega)
      rw [← hsame] at hr1
      obtain ⟨nn, hnn⟩ : ∃ z : Int, ((numR 0 (q5 l) : Nat) : Int) = z := ⟨_, rfl⟩
      obtain ⟨s5, hs5⟩ : ∃ z, bs (q5 l) = z := ⟨_, rfl⟩
      rw [hnn, hs5] at HNU
      have y6 := HY5.out
      rw [hs5] at y6
      rw [hnn] at hr1
      have hbb := HDD.out.2.2
      cases dn with
      | false =>
       rw [if_neg (by decide)] at hr1
       obtain ⟨xv, hxv⟩ : ∃ z : Int, nn - (bh : Int) = z := ⟨_, rfl⟩
       rw [hxv] at hr1
       have HV2 := md_ (fun w => HV.out w xv (by omega) (by omega))
       rw [hr1] at HV2
       have W7 := wrp (x := nn - (bh : Int)) (y := xv) (by omega)
       obtain ⟨w3, w4⟩ := W7.out
       have m3 : (nd : Int) = ln := beq_iff_eq.1 m1
       clear hp hdq hnlt hsame hr1 hnn hs5 hbb hxv W7 HV HDD
       go_wp2_with (first
        | (go_at_call 33; (with_reducible refine (HD3.out _).mono ?_); rintro q w' ⟨rfl, hw⟩; obtain rfl := hw.symm)
        | (go_at_call 34; (with_reducible refine (HNU.out _).mono ?_); rintro q w' ⟨rfl, hw⟩; obtain rfl := hw.symm)
        | (go_at_call 35; (with_reducible refine (HV2.out _).mono ?_); rintro q w' ⟨rfl, hb⟩; have HB := md_ hb; clear hb))
       go_ret2
       exact ⟨rfl, HB.out⟩
      | true =>
       rw [if_pos rfl] at hr1
       obtain ⟨xn, hxn⟩ : ∃ z : Int, -nn = z := ⟨_, rfl⟩
       rw [hxn] at hr1
       obtain ⟨xv, hxv⟩ : ∃ z : Int, xn - (bh : Int) = z := ⟨_, rfl⟩
       rw [hxv] at hr1
       have HV2 := md_ (fun w => HV.out w xv (by omega) (by omega))
       rw [hr1] at HV2
       have W7 := wrp (x := xn - (bh : Int)) (y := xv) (by omega)
       have W8 := wrp (x := -nn) (y := xn) (by omega)
       obtain ⟨w3, w4⟩ := W7.out
       obtain ⟨w5, w6⟩ := W8.out
       have m3 : (nd : Int) = ln := beq_iff_eq.1 m1
       clear hp hdq hnlt hsame hr1 hnn hs5 hbb hxv hxn W7 W8 HV HDD
       go_wp2_with (first
        | (go_at_call 33; (with_reducible refine (HD3.out _).mono ?_); rintro q w' ⟨rfl, hw⟩; obtain rfl := hw.symm)
        | (go_at_call 34; (with_reducible refine (HNU.out _).mono ?_); rintro q w' ⟨rfl, hw⟩; obtain rfl := hw.symm)
        | (go_at_call 35; (with_reducible refine (HV2.out _).mono ?_); rintro q w' ⟨rfl, hb⟩; have HB := md_ hb; clear hb))
       go_ret2
       exact ⟨rfl, HB.out⟩
theorem r4_Parse (w : World) (l : List UInt8) : Calls Tryz.prog 11 #[.string (bs l)] w fun e w' => e = .returned (.tuple #[.int .u64 ((parseN l).1 : Nat), .bool (parseN l).2]) ∧ Below w.heap.size w w' := by
 by_cases h : 400 < l.length
 ·have e : parseN l = (0, false) := by unfold parseN; rw [if_pos h]
  rw [e]
  exact r4_Parse_long w l h
 ·exact r4_Parse_short w l (by omega)
theorem bs_self (s : ByteArray) : bs s.data.toList = s := rfl
end Go.Proofs.YtdoeigngpemcgaaGreatDoor.Dec
namespace Go.Read
open Go.Proofs.YtdoeigngpemcgaaGreatDoor Go.Proofs.YtdoeigngpemcgaaGreatDoor.Dec
def isLit (l : List UInt8) : Bool := if qA l = [] then false else hasM [69, 101] (q3 l)
def litN (l : List UInt8) : Nat × Bool := if isLit l then parseN l else (0, false)
end Go.Read
namespace Go.Proofs.YtdoeigngpemcgaaGreatDoor.Dec
open Go.RowKit Go.Flt Go.Read Go.Proofs.YtdoeigngpemcgaaGreatDoor.PDec Go.Proofs.YtdoeigngpemcgaaGreatDoor.Pure Go.Proofs.YtdoeigngpemcgaaGreatDoorW.PrintWords Go.Proofs.YtdoeigngpemcgaaGreatDoorW.PrintLast Go.Proofs.YtdoeigngpemcgaaGreatDoorW.PrintMore
set_option maxRecDepth 100000 in
theorem r4_Literal (w : World) (l : List UInt8) (hl : l.length ≤ 1000000000000000000) : Calls Tryz.prog 19 #[.string (bs l)] w fun e w' => e = .returned (.tuple #[.int .u64 ((litN l).1 : Nat), .bool (litN l).2]) ∧ Below w.heap.size w w' := by
 have HM := md_ (fun w => r4_mantissa w l hl false)
 have hmb : manBad l false = decide (qA l = []) := rfl
 rw [hmb] at HM
 have HP := md_ (fun w => r4_Parse w l)
 obtain ⟨s, hs⟩ : ∃ s, bs l = s := ⟨_, rfl⟩
 have hsz : s.size = l.length := by rw [← hs, bs_size]
 rw [hs] at HM HP
 rw [hs]
 unfold litN isLit
 have HB := md_ (Below.refl w.heap.size w)
 by_cases hA : qA l = []
 ·rw [if_pos hA, if_neg (by decide)]
  rw [decide_eq_true hA, if_pos rfl] at HM
  clear hA hmb hs hsz hl HP
  go_enter Tryz.func19, Tryz.ntmps19
  go_wp2_with (go_at_call 32; (with_reducible refine (HM.out _).mono ?_); rintro q w' ⟨rfl, hw⟩; obtain rfl := hw.symm)
  go_ret2
  exact ⟨rfl, HB.out⟩
 rw [if_neg hA]
 rw [decide_eq_false hA, if_neg (by decide)] at HM
 have hdr := q3_drop l
 obtain ⟨a, ha⟩ : ∃ z, l.length - (q3 l).length = z := ⟨_, rfl⟩
 have hal : a ≤ l.length := by omega
 rw [ha] at HM hdr
 have k0 := decide_eq_false (show ¬ (a : Int) < 0 by omega)
 obtain ⟨r1, h1⟩ : ∃ z : Int, ((parseN l).1 : Int) = z := ⟨_, rfl⟩
 obtain ⟨r2, h2⟩ : ∃ z, (parseN l).2 = z := ⟨_, rfl⟩
 rw [h1, h2] at HP
 have hyes : hasM [69, 101] (q3 l) = true → (Value.tuple #[.int .u64 ((if hasM [69, 101] (q3 l) then parseN l else (0, false)).1 : Nat), .bool (if hasM [69, 101] (q3 l) then parseN l else (0, false)).2]) = .tuple #[.int .u64 r1, .bool r2] := fun h => by
  rw [if_pos h, ← h1, ← h2]
 have hno : hasM [69, 101] (q3 l) = false → (Value.tuple #[.int .u64 ((if hasM [69, 101] (q3 l) then parseN l else (0, false)).1 : Nat), .bool (if hasM [69, 101] (q3 l) then parseN l else (0, false)).2]) = .tuple #[.int .u64 0, .bool false] := fun h => by
  rw [h, if_neg (by decide)]
  rfl
 match hm : q3 l with
 | [] =>
  rw [hm] at hdr hno
  rw [hno rfl]
  have hsa : a = s.size := by have := drop_len hdr hal; rw [this, List.length_nil]; omega
  have d1 := decide_eq_true (show s.size ≤ a by omega)
  have d2 := decide_eq_true (show (s.size : Int) ≤ (a : Int) by omega)
  clear hA hmb hs hsz hl hyes hno hm hdr hal ha h1 h2 hsa
  go_enter Tryz.func19, Tryz.ntmps19
  go_wp2_with (go_at_call 32; (with_reducible refine (HM.out _).mono ?_); rintro q w' ⟨rfl, hw⟩; obtain rfl := hw.symm)
  go_ret2
  exact ⟨rfl, HB.out⟩
 | c :: t =>
  rw [hm] at hdr hno hyes
  obtain ⟨f1, f2, f3⟩ := drop_more hdr
  have hg := bs_at hs f3
  have d1 := decide_eq_false (show ¬ s.size ≤ a by omega)
  have d2 := decide_eq_false (show ¬ (s.size : Int) ≤ (a : Int) by omega)
  have b1 : (0 : Int) ≤ (a : Int) := by omega
  have b2 : (a : Int) < (s.size : Nat) := by omega
  have b3 : a < s.size := by omega
  by_cases k1 : c = 69
  ·subst k1
   rw [hyes rfl]
   rw [show (69 : UInt8).toNat = 69 from rfl] at hg
   clear hA hmb hs hsz hl hyes hno hm hdr hal ha h1 h2 f1 f2 f3
   go_enter Tryz.func19, Tryz.ntmps19
   go_wp2_with (first | (go_at_call 32; (with_reducible refine (HM.out _).mono ?_); rintro q w' ⟨rfl, hw⟩; obtain rfl := hw.symm) | (go_at_call 11; (with_reducible refine (HP.out _).mono ?_); rintro q w' ⟨rfl, hb⟩; replace HB := bt_ HB hb; clear hb))
   go_ret2
   exact ⟨rfl, HB.out⟩
  by_cases k2 : c = 101
  ·subst k2
   rw [hyes rfl]
   rw [show (101 : UInt8).toNat = 101 from rfl] at hg
   clear hA hmb hs hsz hl hyes hno hm hdr hal ha h1 h2 f1 f2 f3 k1
   go_enter Tryz.func19, Tryz.ntmps19
   go_wp2_with (first | (go_at_call 32; (with_reducible refine (HM.out _).mono ?_); rintro q w' ⟨rfl, hw⟩; obtain rfl := hw.symm) | (go_at_call 11; (with_reducible refine (HP.out _).mono ?_); rintro q w' ⟨rfl, hb⟩; replace HB := bt_ HB hb; clear hb))
   go_ret2
   exact ⟨rfl, HB.out⟩
  ·have hf : hasM [69, 101] (c :: t) = false := by
    unfold hasM
    simp [k1, k2]
   rw [hno hf]
   obtain ⟨cv, hcv⟩ : ∃ z, c.toNat = z := ⟨_, rfl⟩
   rw [hcv] at hg
   have n1 : cv ≠ 69 := by rw [← hcv]; exact u8_ne (by decide) k1
   have n2 : cv ≠ 101 := by rw [← hcv]; exact u8_ne (by decide) k2
   have m1 : ((cv : Int) == 69) = false := beq_ff n1
   have m2 : ((cv : Int) == 101) = false := beq_ff n2
   have m3 : ((cv : Int) != 69) = true := by rw [bne, m1]; rfl
   have m4 : ((cv : Int) != 101) = true := by rw [bne, m2]; rfl
   clear hA hmb hs hsz hl hyes hno hm hdr hal ha h1 h2 f1 f2 f3 k1 k2 hf hcv
   go_enter Tryz.func19, Tryz.ntmps19
   go_wp2_with (go_at_call 32; (with_reducible refine (HM.out _).mono ?_); rintro q w' ⟨rfl, hw⟩; obtain rfl := hw.symm)
   go_ret2
   exact ⟨rfl, HB.out⟩
set_option maxRecDepth 100000 in
theorem d_Literal_long (w : World) (l : List UInt8) (h : 400 < l.length) : Calls Tryz.prog 18 #[.string (bs l)] w fun e w' => e = .returned (.tuple #[.int .u64 0, .bool false]) ∧ Below w.heap.size w w' := by
 have hu46 := Tryz.underlying46
 have HB := md_ (Below.refl w.heap.size w)
 have HS1 := md_ (fun w' g (hb : Below w.heap.size w w') (hg : w.heap.size ≤ g) (h : Rd w' g l) => d_sign w w' g l hb hg h)
 have n1 : after [43, 45] l = q1 l := rfl
 rw [n1] at HS1
 obtain ⟨s, hs⟩ : ∃ s, bs l = s := ⟨_, rfl⟩
 have c1 := decide_eq_true (show (400 : Int) < (s.size : Nat) by rw [← hs, bs_size]; omega)
 have c2 := decide_eq_true (show 400 < s.size by rw [← hs, bs_size]; omega)
 rw [hs]
 have HSE : Aside0 (bs l = s) := ⟨hs⟩
 clear n1 hs h
 go_enter Tryz.func18, Tryz.ntmps18
 go_wp2_with (first | ((with_reducible refine gate_dst (N := 11) rfl ?_); refine box_event ?hg (N := 11) ?hd (cs := #[.string s]) (t := 46) ?hr ?_; (case hd => rfl); (case hg => rfl); (case hr => first | (go_simp; done) | (go_simp; rfl)); intro g1 hg w4 hbox hb; have n0_ := md_ (show Rd w4 g1 l by unfold Rd; rw [HSE.out]; exact hbox); have n2_ := md_ ((by rw [hg]; exact (below_size HB.out)) : w.heap.size ≤ g1); have n1_ := md_ (below_step HB.out hb); clear HB; have HB := n1_; have HR := n0_; have GE := n2_; clear n0_ n1_ n2_; clear hb hbox hg) | (go_at_call 27; (with_reducible refine (HS1.out _ _ HB.out GE.out HR.out).mono ?_); rintro e w' ⟨rfl, hr, hb⟩; have n0_ := md_ hr; have n1_ := md_ hb; clear HR HB hr hb; have HR := n0_; have HB := n1_; clear n0_ n1_))
 go_ret2
 exact ⟨rfl, HB.out⟩
set_option maxRecDepth 100000 in
theorem d_Literal_short (w : World) (l : List UInt8) (h : l.length ≤ 400) : Calls Tryz.prog 18 #[.string (bs l)] w fun e w' => e = .returned (.tuple #[.int .u64 ((litN l).1 : Nat), .bool (litN l).2]) ∧ Below w.heap.size w w' := by
 have hu46 := Tryz.underlying46
 have HB := md_ (Below.refl w.heap.size w)
 have HS1 := md_ (fun w' g (hb : Below w.heap.size w w') (hg : w.heap.size ≤ g) (h : Rd w' g l) => d_sign w w' g l hb hg h)
 have n1 : after [43, 45] l = q1 l := rfl
 rw [n1] at HS1
 have k1 : (q1 l).length ≤ 1000000 := Nat.le_trans (after_len _ _) (by omega)
 have HD1 := md_ (fun w' g (hb : Below w.heap.size w w') (hg : w.heap.size ≤ g) (h : Rd w' g (q1 l)) => d_digits w w' g (q1 l) k1 hb hg h)
 have HP := md_ (fun w' g (hb : Below w.heap.size w w') (hg : w.heap.size ≤ g) (h : Rd w' g (q2 l)) => d_take w w' g [46] (q2 l) hb hg h)
 have hp46 : bs [46] = ⟨#[46]⟩ := rfl
 have hp4 : bs [69, 101] = ⟨#[69, 101]⟩ := rfl
 rw [hp46] at HP
 have k2 : (q2 l).tail.length ≤ 1000000 := by have := past_len (q1 l); have : (q2 l).length ≤ _ := this; rw [List.length_tail]; omega
 have HD2 := md_ (fun w' g (hb : Below w.heap.size w w') (hg : w.heap.size ≤ g) (h : Rd w' g (q2 l).tail) => d_digits w w' g (q2 l).tail k2 hb hg h)
 have HE := md_ (fun w' g (hb : Below w.heap.size w w') (hg : w.heap.size ≤ g) (h : Rd w' g (q3 l)) => d_take w w' g [69, 101] (q3 l) hb hg h)
 rw [hp4] at HE
 have HPA := md_ (fun w => d_Parse w l)
 have n2 : past (q1 l) = q2 l := rfl
 have n3 : dg (q1 l) = qA l := rfl
 have n4 : hasM [46] (q2 l) = qp l := rfl
 rw [n2, n3] at HD1
 rw [n4] at HP
 obtain ⟨s, hs⟩ : ∃ s, bs l = s := ⟨_, rfl⟩
 have c1 := decide_eq_false (show ¬ (400 : Int) < (s.size : Nat) by rw [← hs, bs_size]; omega)
 have c2 := decide_eq_false (show ¬ 400 < s.size by rw [← hs, bs_size]; omega)
 rw [hs] at HPA
 rw [hs]
 have HSE : Aside0 (bs l = s) := ⟨hs⟩
 obtain ⟨sA, hsA⟩ : ∃ s, bs (qA l) = s := ⟨_, rfl⟩
 rw [hsA] at HD1
 unfold litN isLit
 by_cases hA : qA l = []
 ·rw [if_pos hA, if_neg (by decide)]
  have a1 : sA.toList = [] := by rw [← hsA, hA]; exact bs_list []
  have a2 : sA.toList.isEmpty = true := by rw [a1]; rfl
  clear hA hsA h hs k1 k2 n1 n2 n3 n4 hp46 hp4 HPA HE HD2 HP
  go_enter Tryz.func18, Tryz.ntmps18
  go_wp2_with (first | ((with_reducible refine gate_dst (N := 11) rfl ?_); refine box_event ?hg (N := 11) ?hd (cs := #[.string s]) (t := 46) ?hr ?_; (case hd => rfl); (case hg => rfl); (case hr => first | (go_simp; done) | (go_simp; rfl)); intro g1 hg w4 hbox hb; have n0_ := md_ (show Rd w4 g1 l by unfold Rd; rw [HSE.out]; exact hbox); have n2_ := md_ ((by rw [hg]; exact (below_size HB.out)) : w.heap.size ≤ g1); have n1_ := md_ (below_step HB.out hb); clear HB; have HB := n1_; have HR := n0_; have GE := n2_; clear n0_ n1_ n2_; clear hb hbox hg) | (go_at_call 27; (with_reducible refine (HS1.out _ _ HB.out GE.out HR.out).mono ?_); rintro e w' ⟨rfl, hr, hb⟩; have n0_ := md_ hr; have n1_ := md_ hb; clear HR HB hr hb; have HR := n0_; have HB := n1_; clear n0_ n1_) | (go_at_call 28; (with_reducible refine (HD1.out _ _ HB.out GE.out HR.out).mono ?_); rintro e w' ⟨rfl, hr, hb⟩; have n0_ := md_ hr; have n1_ := md_ hb; clear HR HB hr hb; have HR := n0_; have HB := n1_; clear n0_ n1_))
  go_ret2
  exact ⟨rfl, HB.out⟩
 have a1 : ¬ sA.toList = [] := by rw [← hsA, bs_list]; exact hA
 have a2 : sA.toList.isEmpty = false := by
  rw [Bool.eq_false_iff]
  intro h
  exact a1 (List.isEmpty_iff.1 h)
 rw [if_neg hA]
 obtain ⟨r1, h1⟩ : ∃ z : Int, ((parseN l).1 : Int) = z := ⟨_, rfl⟩
 obtain ⟨r2, h2⟩ : ∃ z, (parseN l).2 = z := ⟨_, rfl⟩
 rw [h1, h2] at HPA
 have hyes : hasM [69, 101] (q3 l) = true → (Value.tuple #[.int .u64 ((if hasM [69, 101] (q3 l) then parseN l else (0, false)).1 : Nat), .bool (if hasM [69, 101] (q3 l) then parseN l else (0, false)).2]) = .tuple #[.int .u64 r1, .bool r2] := fun h => by
  rw [if_pos h, ← h1, ← h2]
 have hno : hasM [69, 101] (q3 l) = false → (Value.tuple #[.int .u64 ((if hasM [69, 101] (q3 l) then parseN l else (0, false)).1 : Nat), .bool (if hasM [69, 101] (q3 l) then parseN l else (0, false)).2]) = .tuple #[.int .u64 0, .bool false] := fun h => by
  rw [h, if_neg (by decide)]
  rfl
 by_cases hp : qp l = true
 ·have m1 : after [46] (q2 l) = (q2 l).tail := by unfold after; rw [if_pos (n4.trans hp)]
  have m3 : past (q2 l).tail = q3 l := by unfold q3; rw [if_pos hp]
  rw [m1, hp] at HP
  rw [m3] at HD2
  clear m1 m3
  by_cases hE : hasM [69, 101] (q3 l) = true
  ·rw [hyes hE]
   rw [hE] at HE
   clear hE hyes hno h1 h2 hA hsA h hs k1 k2 n1 n2 n3 n4 hp46 hp4 hp
   go_enter Tryz.func18, Tryz.ntmps18
   go_wp2_with (first | ((with_reducible refine gate_dst (N := 11) rfl ?_); refine box_event ?hg (N := 11) ?hd (cs := #[.string s]) (t := 46) ?hr ?_; (case hd => rfl); (case hg => rfl); (case hr => first | (go_simp; done) | (go_simp; rfl)); intro g1 hg w4 hbox hb; have n0_ := md_ (show Rd w4 g1 l by unfold Rd; rw [HSE.out]; exact hbox); have n2_ := md_ ((by rw [hg]; exact (below_size HB.out)) : w.heap.size ≤ g1); have n1_ := md_ (below_step HB.out hb); clear HB; have HB := n1_; have HR := n0_; have GE := n2_; clear n0_ n1_ n2_; clear hb hbox hg) | (go_at_call 27; (with_reducible refine (HS1.out _ _ HB.out GE.out HR.out).mono ?_); rintro e w' ⟨rfl, hr, hb⟩; have n0_ := md_ hr; have n1_ := md_ hb; clear HR HB hr hb; have HR := n0_; have HB := n1_; clear n0_ n1_) | (go_at_call 28; (with_reducible refine (HD1.out _ _ HB.out GE.out HR.out).mono ?_); rintro e w' ⟨rfl, hr, hb⟩; have n0_ := md_ hr; have n1_ := md_ hb; clear HR HB hr hb; have HR := n0_; have HB := n1_; clear n0_ n1_) | (go_at_call 28; (with_reducible refine (HD2.out _ _ HB.out GE.out HR.out).mono ?_); rintro e w' ⟨rfl, hr, hb⟩; have n0_ := md_ hr; have n1_ := md_ hb; clear HR HB hr hb; have HR := n0_; have HB := n1_; clear n0_ n1_) | (go_at_call 29; (with_reducible refine (HP.out _ _ HB.out GE.out HR.out).mono ?_); rintro e w' ⟨rfl, hr, hb⟩; have n0_ := md_ hr; have n1_ := md_ hb; clear HR HB hr hb; have HR := n0_; have HB := n1_; clear n0_ n1_) | (go_at_call 29; (with_reducible refine (HE.out _ _ HB.out GE.out HR.out).mono ?_); rintro e w' ⟨rfl, hr, hb⟩; have n0_ := md_ hr; have n1_ := md_ hb; clear HR HB hr hb; have HR := n0_; have HB := n1_; clear n0_ n1_) | (go_at_call 10; (with_reducible refine (HPA.out _).mono ?_); rintro q w' ⟨rfl, hb⟩; replace HB := bt_ HB hb; clear hb))
   go_ret2
   exact ⟨rfl, HB.out⟩
  ·have hF : hasM [69, 101] (q3 l) = false := by cases e : hasM [69, 101] (q3 l) with | true => exact absurd e hE | false => rfl
   rw [hno hF]
   rw [hF] at HE
   clear hE hF hyes hno h1 h2 hA hsA h hs k1 k2 n1 n2 n3 n4 hp46 hp4 hp
   go_enter Tryz.func18, Tryz.ntmps18
   go_wp2_with (first | ((with_reducible refine gate_dst (N := 11) rfl ?_); refine box_event ?hg (N := 11) ?hd (cs := #[.string s]) (t := 46) ?hr ?_; (case hd => rfl); (case hg => rfl); (case hr => first | (go_simp; done) | (go_simp; rfl)); intro g1 hg w4 hbox hb; have n0_ := md_ (show Rd w4 g1 l by unfold Rd; rw [HSE.out]; exact hbox); have n2_ := md_ ((by rw [hg]; exact (below_size HB.out)) : w.heap.size ≤ g1); have n1_ := md_ (below_step HB.out hb); clear HB; have HB := n1_; have HR := n0_; have GE := n2_; clear n0_ n1_ n2_; clear hb hbox hg) | (go_at_call 27; (with_reducible refine (HS1.out _ _ HB.out GE.out HR.out).mono ?_); rintro e w' ⟨rfl, hr, hb⟩; have n0_ := md_ hr; have n1_ := md_ hb; clear HR HB hr hb; have HR := n0_; have HB := n1_; clear n0_ n1_) | (go_at_call 28; (with_reducible refine (HD1.out _ _ HB.out GE.out HR.out).mono ?_); rintro e w' ⟨rfl, hr, hb⟩; have n0_ := md_ hr; have n1_ := md_ hb; clear HR HB hr hb; have HR := n0_; have HB := n1_; clear n0_ n1_) | (go_at_call 28; (with_reducible refine (HD2.out _ _ HB.out GE.out HR.out).mono ?_); rintro e w' ⟨rfl, hr, hb⟩; have n0_ := md_ hr; have n1_ := md_ hb; clear HR HB hr hb; have HR := n0_; have HB := n1_; clear n0_ n1_) | (go_at_call 29; (with_reducible refine (HP.out _ _ HB.out GE.out HR.out).mono ?_); rintro e w' ⟨rfl, hr, hb⟩; have n0_ := md_ hr; have n1_ := md_ hb; clear HR HB hr hb; have HR := n0_; have HB := n1_; clear n0_ n1_) | (go_at_call 29; (with_reducible refine (HE.out _ _ HB.out GE.out HR.out).mono ?_); rintro e w' ⟨rfl, hr, hb⟩; have n0_ := md_ hr; have n1_ := md_ hb; clear HR HB hr hb; have HR := n0_; have HB := n1_; clear n0_ n1_))
   go_ret2
   exact ⟨rfl, HB.out⟩
 ·have hp2 : qp l = false := by cases e : qp l with | true => exact absurd e hp | false => rfl
  have m1 : after [46] (q2 l) = q3 l := by unfold after q3; rw [if_neg (by rw [n4]; exact hp), if_neg hp]
  rw [m1, hp2] at HP
  clear m1 HD2 hp2
  by_cases hE : hasM [69, 101] (q3 l) = true
  ·rw [hyes hE]
   rw [hE] at HE
   clear hE hyes hno h1 h2 hA hsA h hs k1 k2 n1 n2 n3 n4 hp46 hp4 hp
   go_enter Tryz.func18, Tryz.ntmps18
   go_wp2_with (first | ((with_reducible refine gate_dst (N := 11) rfl ?_); refine box_event ?hg (N := 11) ?hd (cs := #[.string s]) (t := 46) ?hr ?_; (case hd => rfl); (case hg => rfl); (case hr => first | (go_simp; done) | (go_simp; rfl)); intro g1 hg w4 hbox hb; have n0_ := md_ (show Rd w4 g1 l by unfold Rd; rw [HSE.out]; exact hbox); have n2_ := md_ ((by rw [hg]; exact (below_size HB.out)) : w.heap.size ≤ g1); have n1_ := md_ (below_step HB.out hb); clear HB; have HB := n1_; have HR := n0_; have GE := n2_; clear n0_ n1_ n2_; clear hb hbox hg) | (go_at_call 27; (with_reducible refine (HS1.out _ _ HB.out GE.out HR.out).mono ?_); rintro e w' ⟨rfl, hr, hb⟩; have n0_ := md_ hr; have n1_ := md_ hb; clear HR HB hr hb; have HR := n0_; have HB := n1_; clear n0_ n1_) | (go_at_call 28; (with_reducible refine (HD1.out _ _ HB.out GE.out HR.out).mono ?_); rintro e w' ⟨rfl, hr, hb⟩; have n0_ := md_ hr; have n1_ := md_ hb; clear HR HB hr hb; have HR := n0_; have HB := n1_; clear n0_ n1_) | (go_at_call 29; (with_reducible refine (HP.out _ _ HB.out GE.out HR.out).mono ?_); rintro e w' ⟨rfl, hr, hb⟩; have n0_ := md_ hr; have n1_ := md_ hb; clear HR HB hr hb; have HR := n0_; have HB := n1_; clear n0_ n1_) | (go_at_call 29; (with_reducible refine (HE.out _ _ HB.out GE.out HR.out).mono ?_); rintro e w' ⟨rfl, hr, hb⟩; have n0_ := md_ hr; have n1_ := md_ hb; clear HR HB hr hb; have HR := n0_; have HB := n1_; clear n0_ n1_) | (go_at_call 10; (with_reducible refine (HPA.out _).mono ?_); rintro q w' ⟨rfl, hb⟩; replace HB := bt_ HB hb; clear hb))
   go_ret2
   exact ⟨rfl, HB.out⟩
  ·have hF : hasM [69, 101] (q3 l) = false := by cases e : hasM [69, 101] (q3 l) with | true => exact absurd e hE | false => rfl
   rw [hno hF]
   rw [hF] at HE
   clear hE hF hyes hno h1 h2 hA hsA h hs k1 k2 n1 n2 n3 n4 hp46 hp4 hp
   go_enter Tryz.func18, Tryz.ntmps18
   go_wp2_with (first | ((with_reducible refine gate_dst (N := 11) rfl ?_); refine box_event ?hg (N := 11) ?hd (cs := #[.string s]) (t := 46) ?hr ?_; (case hd => rfl); (case hg => rfl); (case hr => first | (go_simp; done) | (go_simp; rfl)); intro g1 hg w4 hbox hb; have n0_ := md_ (show Rd w4 g1 l by unfold Rd; rw [HSE.out]; exact hbox); have n2_ := md_ ((by rw [hg]; exact (below_size HB.out)) : w.heap.size ≤ g1); have n1_ := md_ (below_step HB.out hb); clear HB; have HB := n1_; have HR := n0_; have GE := n2_; clear n0_ n1_ n2_; clear hb hbox hg) | (go_at_call 27; (with_reducible refine (HS1.out _ _ HB.out GE.out HR.out).mono ?_); rintro e w' ⟨rfl, hr, hb⟩; have n0_ := md_ hr; have n1_ := md_ hb; clear HR HB hr hb; have HR := n0_; have HB := n1_; clear n0_ n1_) | (go_at_call 28; (with_reducible refine (HD1.out _ _ HB.out GE.out HR.out).mono ?_); rintro e w' ⟨rfl, hr, hb⟩; have n0_ := md_ hr; have n1_ := md_ hb; clear HR HB hr hb; have HR := n0_; have HB := n1_; clear n0_ n1_) | (go_at_call 29; (with_reducible refine (HP.out _ _ HB.out GE.out HR.out).mono ?_); rintro e w' ⟨rfl, hr, hb⟩; have n0_ := md_ hr; have n1_ := md_ hb; clear HR HB hr hb; have HR := n0_; have HB := n1_; clear n0_ n1_) | (go_at_call 29; (with_reducible refine (HE.out _ _ HB.out GE.out HR.out).mono ?_); rintro e w' ⟨rfl, hr, hb⟩; have n0_ := md_ hr; have n1_ := md_ hb; clear HR HB hr hb; have HR := n0_; have HB := n1_; clear n0_ n1_))
   go_ret2
   exact ⟨rfl, HB.out⟩
theorem d_Literal (w : World) (l : List UInt8) : Calls Tryz.prog 18 #[.string (bs l)] w fun e w' => e = .returned (.tuple #[.int .u64 ((litN l).1 : Nat), .bool (litN l).2]) ∧ Below w.heap.size w w' := by
 by_cases h : 400 < l.length
 ·have e : parseN l = (0, false) := by unfold parseN; rw [if_pos h]
  have e2 : litN l = (0, false) := by unfold litN; rw [e]; split <;> rfl
  rw [e2]
  exact d_Literal_long w l h
 ·exact d_Literal_short w l (by omega)
set_option maxRecDepth 100000 in
theorem literals_law (w : World) (s : ByteArray) (hl : s.size ≤ 140737488351232) : Calls Tryz.prog 7 #[.string s] w fun e w' => e = .returned (.bool true) ∧ Below w.heap.size w w' := by
 have L1 := md_ (fun w => d_Literal w s.data.toList)
 have L2 := md_ (fun w => r4_Literal w s.data.toList (by rw [Array.length_toList]; exact Nat.le_trans hl (by decide)))
 have P1 := md_ (fun w => d_Parse w s.data.toList)
 have HA := md_ (fun w => awake_any w)
 rw [bs_self] at L1 L2 P1
 have hlp : (litN s.data.toList).2 = false ∨ ((litN s.data.toList).1 = (parseN s.data.toList).1 ∧ (parseN s.data.toList).2 = (litN s.data.toList).2) := by
  unfold litN
  split
  ·exact .inr ⟨rfl, rfl⟩
  ·exact .inl rfl
 obtain ⟨r1, h1⟩ : ∃ z : Int, ((litN s.data.toList).1 : Int) = z := ⟨_, rfl⟩
 obtain ⟨r2, h2⟩ : ∃ z, (litN s.data.toList).2 = z := ⟨_, rfl⟩
 obtain ⟨p1, h3⟩ : ∃ z : Int, ((parseN s.data.toList).1 : Int) = z := ⟨_, rfl⟩
 obtain ⟨p2, h4⟩ : ∃ z, (parseN s.data.toList).2 = z := ⟨_, rfl⟩
 rw [h1, h2] at L1 L2
 rw [h3, h4] at P1
 have hlq : r2 = false ∨ (r2 = true ∧ p1 = r1 ∧ p2 = true) := by
  rw [h2, h4] at hlp
  rcases hlp with h | ⟨ha, hb⟩
  ·exact .inl h
  ·cases r2 with
   | false => exact .inl rfl
   | true => exact .inr ⟨rfl, by rw [← h1, ← h3, ha], hb⟩
 have HB := md_ (Below.refl w.heap.size w)
 clear h1 h2 h3 h4 hlp hl
 rcases hlq with rfl | ⟨rfl, rfl, rfl⟩ <;> (
  go_enter Tryz.func7, Tryz.ntmps7
  go_wp2_with (first
   | (go_at_call 18; (with_reducible refine (L1.out _).mono ?_); rintro q w' ⟨rfl, hb⟩; replace HB := bt_ HB hb; clear hb)
   | (go_at_call 19; (with_reducible refine (L2.out _).mono ?_); rintro q w' ⟨rfl, hb⟩; replace HB := bt_ HB hb; clear hb)
   | (go_at_call 10; (with_reducible refine (P1.out _).mono ?_); rintro q w' ⟨rfl, hb⟩; replace HB := bt_ HB hb; clear hb)
   | (go_at_call 12; (with_reducible refine (HA.out _).mono ?_); rintro q w' ⟨rfl, hb⟩; replace HB := bt_ HB hb; clear hb))
  go_ret
  exact ⟨rfl, HB.out⟩)
end Go.Proofs.YtdoeigngpemcgaaGreatDoor.Dec
namespace Go.Proofs.YtdoeigngpemcgaaGreatDoor.decimalLiterals
open Go.ChangeShapes Go.WideShapes Go.ChangeAt Go.RowKit Go.Proofs.YtdoeigngpemcgaaGreatDoorW.PrintWords
open Go.ChangeMaps (open_string shut_string)
theorem own : ownKnob Tryz.prog.godebug = none := by kernel_rfl
set_option maxRecDepth 100000 in
theorem lifted (os : Os) (started : os.Started) (H : Type) (enc : TypeId × Value → H) :
  ReturnsInHanded {} Tryz.checked os 7 .any (fun w args => (Rows.decimalLiteralsSpec.pre enc Tryz.prog Tryz.f7 Rows.decimalLiteralsRow.domain false w args ∧ laidMetH Tryz.prog Rows.decimalLiteralsRow.laid w) ∧ sizedMet enc Tryz.prog Tryz.f7 (OpenSpec.ofChange Rows.decimalLiteralsSpec) false w args) (Rows.decimalLiteralsSpec.post enc Tryz.prog Tryz.f7 false true false false) := by
 refine returnsInHanded_of_change_and (C := Tryz.checked) (X := fun w _ => laidMetH Tryz.prog Rows.decimalLiteralsRow.laid w) (fun _ _ _ hh h => h.of_heap hh) own started (by kernel_rfl) Tryz.func7
  (ChangeSpec.witness_shaped (enc := enc) (C := Tryz.checked) (os := os) (X := fun w _ => laidMetH Tryz.prog Rows.decimalLiteralsRow.laid w) false (World.laidAll Tryz.prog os Rows.decimalLiteralsRow.laid) #[.string ⟨#[]⟩] 8 (World.laidAll_os _ _ _)
   (World.shaped_of_ZipB (by kernel_rfl) (by kernel_rfl)) (by kernel_rfl) (by kernel_rfl) (by kernel_rfl)
   (by rw [MakeChecks.laidMetH_plain _ _ _ (by kernel_rfl)]; exact laidMet_laidAll _ (by kernel_rfl) (by kernel_rfl))) ?_
 intro W base args ds gs before hval0 hW hcnd hsz0 hlaid _
 have hsz : (DataW.weightsEach Tryz.prog (Tryz.f7.params.toList ++ Rows.decimalLiteralsSpec.plain.varTypes Tryz.prog) (ds ++ gs)).all (· ≤ reachBytes) = true := hsz0
 have hval : ∀ (j : Nat) t v, Tryz.f7.params[j]? = some t → args[j]? = some v → Value.okWide Tryz.prog W .any base t v := hval0
 have hW' := hW
 obtain ⟨p, q, hA0, hV, rfl, hfz, hnd⟩ := hW
 have hA : DataW.TrodAll enc Tryz.prog W 0 (fun _ => true) true Tryz.f7.params.toList args.toList ds p := hA0
 rw [Tryz.params7] at hA hval hsz
 obtain ⟨v0, vs0, d0, ds0, p0, q0, hargs, rfl, rfl, h0, r0⟩ := trodAll_cons hA
 obtain ⟨rfl, rfl, rfl⟩ := trodAll_nil r0
 obtain rfl : args = #[v0] := by cases args; simp_all
 obtain ⟨rfl, rfl⟩ := trodVars_none hV
 obtain ⟨a0, rfl, rfl, rfl, y0⟩ := open_string Tryz.underlying9 (hval 0 9 v0 rfl rfl) h0
 have z0 : a0.size ≤ 140737488351232 := by
  have z := sized_string hsz (j := 0) (t := 9) rfl rfl
  rw [Array.length_toList] at z
  exact z
 clear hA0 hval0 hsz0 hsz
 refine (Dec.literals_law W a0 z0).mono fun e W' ⟨he, bel⟩ => ?_
 subst he
 exact ⟨_, rfl, _, _, _, [], _, [], hW', trodAll_mk1 (shut_bool Tryz.underlying4 _), (trodAll_cons_mk (shut_string Tryz.underlying9 y0) trodAll_mk0), rfl, bel.frame _, fun h => by cases h⟩
theorem over : Rows.decimalLiteralsRow.holds Tryz.pinned (OpenSpec.ofChange Rows.decimalLiteralsSpec) :=
 OpenClaim.holds_of_wide 7 Tryz.f7 rfl rfl rfl rfl rfl rfl rfl ⟨rfl, rfl, rfl, rfl, rfl⟩ rfl rfl rfl rfl rfl (by kernel_rfl) Tryz.func7 (by kernel_rfl)
  (of_decide_eq_true (by kernel_rfl)) (by unfold Func.isWrapper; first | (rw [if_pos (by decide +kernel)]; kernel_rfl) | (rw [if_neg (by decide +kernel)]; exact ⟨rfl, rfl⟩))
  (fun os started H enc _ => lifted os started H enc)
theorem proved : Rows.DecimalLiteralsSaid := over
#print axioms proved
end Go.Proofs.YtdoeigngpemcgaaGreatDoor.decimalLiterals
namespace Go.Proofs.YtdoeigngpemcgaaGreatDoor
theorem decimalLiterals_card : Rows.DecimalLiteralsCardSaid :=
 Claim7.holds_tied_plain_at .later [] [.data, .data, .data, .data, .sentinel, .sentinel, .pinned] true (true, "c2a87cd1fda44bdbc77c27154221b68171628de75c6da12bbc8fad55874a6f08") true decimalLiterals.proved (fun _ h => by cases h) (by kernel_rfl) (fun _ h => by cases h) decimalLiterals_row_tie rfl ⟨rfl, rfl⟩ (by kernel_rfl) rfl
  (fun f fn hf hfn => by
   obtain rfl : f = 7 := Option.some.inj ((show Tryz.prog.funcNamed "bobbin/bobbinlaw4.DecimalLiterals" = some 7 by kernel_rfl).symm.trans hf) |>.symm
   obtain rfl : fn = Tryz.f7 := (Option.some.inj (Tryz.func7.symm.trans hfn)).symm
   exact ⟨by kernel_rfl, fun j t ht => by
    rw [Tryz.params7] at ht
    have hm : t ∈ [9] := by simpa using Array.mem_of_getElem? ht
    have hall : ([9].all fun u => !Tryz.prog.wantsStandIn u) = true := by kernel_rfl
    exact (show Tryz.prog.wantsStandIn t = false by simpa using List.all_eq_true.1 hall t hm)⟩)
  (by kernel_rfl)
#print axioms decimalLiterals_card
end Go.Proofs.YtdoeigngpemcgaaGreatDoor
