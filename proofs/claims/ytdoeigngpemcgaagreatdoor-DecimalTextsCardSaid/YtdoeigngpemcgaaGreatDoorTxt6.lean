/- Over any float and any number of digits the law DecimalTexts answers true: the three texts of a float are the document's own; no condition. This is part 6 of 7: what the session's printing program wrote for the functions reached, and the session's own lemmas. -/
import Derived.Laws.RangeAny
import Derived.Laws.ResultCell
import Derived.Lib.AppendIntMem
import Derived.Lib.ItoaNum
import Derived.Lib.OthersKept
import Derived.Test.YtdoeigngpemcgaaGreatDoorTxt2
import Derived.Test.YtdoeigngpemcgaaGreatDoorTxt4
import Derived.Test.YtdoeigngpemcgaaGreatDoorTxt5
set_option maxHeartbeats 32000000
set_option linter.unusedVariables false
set_option linter.unusedSimpArgs false
namespace Go.Flt
def nearN (m : Nat) (e k : Int) : Nat :=
 if rhs e k < 2 * (lhs m e k % rhs e k) ∨ (2 * (lhs m e k % rhs e k) = rhs e k ∧ lhs m e k / rhs e k % 2 = 1) then lhs m e k / rhs e k + 1 else lhs m e k / rhs e k
end Go.Flt
namespace Go.Proofs.YtdoeigngpemcgaaGreatDoor.Dec
open Go.RowKit Go.Flt Go.Proofs.YtdoeigngpemcgaaGreatDoor.Pure YtdoeigngpemcgaaGreatDoorW.PrintWords YtdoeigngpemcgaaGreatDoorW.PrintLast YtdoeigngpemcgaaGreatDoorW.PrintMore
attribute [local go_sem] max2_int min2_int max_two min_two max_three min_three max_four min_four
theorem head_word {w : World} {A : Option Addr} {c n L : Nat} (h : Nm w (.slice A L c) n) (hL : (Num.wordsN n).length = L) (h0 : 0 < L) : ∃ ad, A = some ad ∧ w.cell? ad = some (.int .u32 (((n % 4294967296 : Nat) : Int))) := by
 obtain ⟨_, _, hC⟩ := Kd.V_reads' h
 obtain ⟨ad, rfl, _⟩ := Kd.at_int hC 0 (by omega) (by omega)
 have hz := Kd.foot_int hC 0 (by omega) (by omega)
 have hx : rd (Num.wordsN n) 0 = ((n % 4294967296 : Nat) : Int) := by
  rcases Nat.eq_zero_or_pos n with z | z
  ·subst z
   rw [Num.wordsN_zero] at hL
   exact absurd hL (by simp; omega)
  ·rw [Num.wordsN_pos (by omega)]
   rfl
 rw [hx] at hz
 rw [show ad.add (0 : Int).toNat = ad from rfl] at hz
 exact ⟨ad, rfl, hz⟩
theorem par_word (n : Nat) : bits .and .u32 (((n % 4294967296 : Nat) : Int)) 1 = ((n % 2 : Nat) : Int) := by
 rw [show (1 : Int) = ((1 : Nat) : Int) from rfl, u32_and_nat _ _ (Nat.mod_lt _ (by decide)) (by decide), Nat.and_one_is_mod]
 omega
set_option maxRecDepth 100000 in
theorem d_near (w : World) {v : Value} {m : Nat} (hv : Nm w v m) (hm : m < 2 ^ 53) (e n x : Int) (he : -1074 ≤ e) (he2 : e ≤ 971) (hk : -450 ≤ x - n) (hk2 : x - n ≤ 450) (hx1 : -1000 ≤ x) (hx2 : x ≤ 1000) :
  Calls Tryz.prog 40 #[v, .int .i64 e, .int .i64 n, .int .i64 x] w fun y w' => y = .returned (.string ⟨(Num.textN (nearN m e (x - n))).toArray⟩) ∧ Below w.heap.size w w' := by
 obtain ⟨k, hkk⟩ : ∃ z, x - n = z := ⟨_, rfl⟩
 have hnx : n - x = -k := by omega
 obtain ⟨nk, hnk⟩ : ∃ z, -k = z := ⟨_, rfl⟩
 rw [hnk] at hnx
 obtain ⟨ne, hne⟩ : ∃ z, -e = z := ⟨_, rfl⟩
 rw [hkk] at hk hk2 ⊢
 have T1 := md_ (fun w => d_ten w nk (by omega))
 have T2 := md_ (fun w => d_ten w k (by omega))
 have b1 := ten_lt nk.toNat
 have b2 := ten_lt k.toNat
 have c1 := two_lt e.toNat
 have c2 := two_lt ne.toNat
 have fm : Fit m := fit_lt hm (by omega)
 have d1 := mul_lt_pow hm b1
 have d2 := mul_lt_pow d1 c1
 have d3 := mul_lt_pow b2 c2
 have hL : m * 10 ^ nk.toNat * 2 ^ e.toNat = lhs m e k := by unfold lhs; rw [hnk]
 have hR : 10 ^ k.toNat * 2 ^ ne.toNat = rhs e k := by unfold rhs; rw [hne]
 have X := md_ (fun (w : World) (v u : Value) (h : Nm w v m) (g : Nm w u (10 ^ nk.toNat)) => d_times w h g fm (fit_lt b1 (by omega)) (fit_lt d1 (by omega)))
 have S1 := md_ (fun (w : World) (v : Value) (h : Nm w v (m * 10 ^ nk.toNat)) => d_shifted w h (fit_lt d1 (by omega)) e.toNat (by omega) (fit_lt d2 (by omega)))
 have S2 := md_ (fun (w : World) (v : Value) (h : Nm w v (10 ^ k.toNat)) => d_shifted w h (fit_lt b2 (by omega)) ne.toNat (by omega) (fit_lt d3 (by omega)))
 obtain ⟨me, hme⟩ : ∃ z : Int, max e 0 = z := ⟨_, rfl⟩
 obtain ⟨mn, hmn⟩ : ∃ z : Int, max ne 0 = z := ⟨_, rfl⟩
 have hme' : ((e.toNat : Nat) : Int) = me := by omega
 have hmn' : ((ne.toNat : Nat) : Int) = mn := by omega
 have hme2 : (if e < 0 then 0 else e) = me := by rw [← hme]; split <;> omega
 have hmn2 : (if ne < 0 then 0 else ne) = mn := by rw [← hmn]; split <;> omega
 rw [hme'] at S1
 rw [hmn'] at S2
 rw [hL] at d2 S1
 rw [hR] at d3 S2
 have hpos : 0 < rhs e k := Nat.mul_pos (Nat.pow_pos (by decide)) (Nat.two_pow_pos _)
 obtain ⟨p1, hp1⟩ : ∃ z, 10 ^ nk.toNat = z := ⟨_, rfl⟩
 obtain ⟨p2, hp2⟩ : ∃ z, 10 ^ k.toNat = z := ⟨_, rfl⟩
 rw [hp1] at T1 X S1
 rw [hp2] at T2 S2
 obtain ⟨L, hLL⟩ : ∃ z, lhs m e k = z := ⟨_, rfl⟩
 obtain ⟨R, hRR⟩ : ∃ z, rhs e k = z := ⟨_, rfl⟩
 have hN : nearN m e k = if R < 2 * (L % R) ∨ (2 * (L % R) = R ∧ L / R % 2 = 1) then L / R + 1 else L / R := by unfold nearN; rw [hLL, hRR]
 rw [hLL] at d2 S1
 rw [hRR] at d3 S2 hpos
 have D := md_ (fun (w : World) (v u : Value) (h : Nm w v L) (g : Nm w u R) => n_Divide h g (fit_lt d2 (by omega)) (fit_lt d3 (by omega)) (Nat.ne_of_gt hpos))
 obtain ⟨Q, hQ⟩ : ∃ z, L / R = z := ⟨_, rfl⟩
 obtain ⟨r, hr⟩ : ∃ z, L % R = z := ⟨_, rfl⟩
 have hrl : r < R := by rw [← hr]; exact Nat.mod_lt _ hpos
 have hql : Q ≤ L := by rw [← hQ]; exact Nat.div_le_self _ _
 rw [hQ, hr] at D hN
 have fq : Fit Q := fit_le (fit_lt d2 (by omega)) hql
 have fr : Fit r := fit_le (fit_lt d3 (by omega)) (by omega)
 have r2 : r * 2 ^ 1 < 2 ^ (4 * k.toNat + 1 + (ne.toNat + 1) + 1) := by rw [Nat.pow_succ _ (_ + _)]; omega
 have q1 : Q + 1 < 2 ^ (53 + (4 * nk.toNat + 1) + (e.toNat + 1) + 1) := by
  have := Nat.two_pow_pos (53 + (4 * nk.toNat + 1) + (e.toNat + 1))
  rw [Nat.pow_succ]; omega
 have fr2 : Fit (r * 2 ^ 1) := fit_lt r2 (by omega)
 have fR : Fit R := fit_lt d3 (by omega)
 have fq1 : Fit (Q + 1) := fit_lt q1 (by omega)
 have S3 : Aside0 (∀ w v, Nm w v r → Calls Tryz.prog 76 #[v, .int .i64 1] w fun e w' => ∃ z, e = .returned z ∧ Nm w' z (r * 2 ^ 1) ∧ Below w.heap.size w w') := ⟨fun w v h => d_shifted w h fr 1 (by omega) fr2⟩
 have CC := md_ (fun (w : World) (v u : Value) (h : Nm w v (r * 2 ^ 1)) (g : Nm w u R) => n_Compare h g fr2 fR)
 have AA := md_ (fun (w : World) (v u : Value) (h : Nm w v Q) (g : Nm w u 1) => n_Add h g fq (fit_lt (b := 1) (by decide) (by omega)))
 obtain ⟨cc, hcc⟩ : ∃ z, Num.cmpN (r * 2 ^ 1) R = z := ⟨_, rfl⟩
 have hcc3 : (R < 2 * r ∧ cc = 1) ∨ (2 * r = R ∧ cc = 0) ∨ (2 * r < R ∧ cc = -1) := by
  rw [← hcc]
  unfold Num.cmpN
  rw [Nat.pow_one]
  split
  ·omega
  ·split <;> omega
 rw [hcc] at CC
 obtain ⟨m1, hm1⟩ : ∃ z, m * p1 = z := ⟨_, rfl⟩
 rw [hm1] at X S1
 have w1 : wrap64 (n - x) = nk := by rw [hnx, i64_id (by omega) (by omega)]
 have w2 : IntKind.i64.wrap (n - x) = nk := (i64_w _).trans w1
 have w5 : wrap64 (x - n) = k := by rw [hkk, i64_id (by omega) (by omega)]
 have w6 : IntKind.i64.wrap (x - n) = k := (i64_w _).trans w5
 have w3 : wrap64 (-e) = ne := by rw [hne, i64_id (by omega) (by omega)]
 have w4 : IntKind.i64.wrap (-e) = ne := (i64_w _).trans w3
 have HB := md_ (Below.refl w.heap.size w)
 have hv0 := md_ hv
 obtain ⟨LQ, hLQ⟩ : ∃ z, (Num.wordsN Q).length = z := ⟨_, rfl⟩
 have HQL : Aside0 ((Num.wordsN Q).length = LQ) := ⟨hLQ⟩
 have TX0 := md_ (fun (w : World) (v : Value) (h : Nm w v Q) => n_Text h fq)
 have TX1 := md_ (fun (w : World) (v : Value) (h : Nm w v (Q + 1)) => n_Text h fq1)
 have hup : (R < 2 * r ∨ (2 * r = R ∧ Q % 2 = 1)) → nearN m e k = Q + 1 := fun h => by rw [hN, if_pos h]
 have hno : ¬ (R < 2 * r ∨ (2 * r = R ∧ Q % 2 = 1)) → nearN m e k = Q := fun h => by rw [hN, if_neg h]
 clear hv hm he he2 hk hk2 hnk hne b1 b2 c1 c2 fm d1 d2 d3 hL hR hme' hmn' hp1 hp2 hLL hRR hcc hm1 hN hQ hr hql fq fr r2 q1 fr2 fR fq1 hpos hrl hkk hnx hx1 hx2
 go_enter Tryz.func40, Tryz.ntmps40
 go_upto_region 4 with (first | (go_at_call 74; (with_reducible refine (T1.out _).mono ?_); rintro e w' ⟨r1, rfl, hr, hb⟩; have n0_ := md_ (below_step HB.out hb); have hv1 := md_ hr; have k0_ := md_ (hv0.out.below hb); clear HB hb hr hv0; have HB := n0_; have hv0 := k0_; clear n0_ k0_) | (go_at_call 73; (with_reducible refine (X.out _ _ _ hv0.out hv1.out).mono ?_); rintro e w' ⟨r2, rfl, hr, hb⟩; have n0_ := md_ (below_step HB.out hb); have hv2 := md_ hr; clear HB hb hr ; have HB := n0_; clear n0_) | (go_at_call 76; (with_reducible refine (S1.out _ _ hv2.out).mono ?_); rintro e w' ⟨r3, rfl, hr, hb⟩; have n0_ := md_ (below_step HB.out hb); have hv3 := md_ hr; clear HB hb hr ; have HB := n0_; clear n0_) | (go_at_call 74; (with_reducible refine (T2.out _).mono ?_); rintro e w' ⟨r4, rfl, hr, hb⟩; have n0_ := md_ (below_step HB.out hb); have hv4 := md_ hr; have k0_ := md_ (hv3.out.below hb); clear HB hb hr hv3; have HB := n0_; have hv3 := k0_; clear n0_ k0_) | (go_at_call 76; (with_reducible refine (S2.out _ _ hv4.out).mono ?_); rintro e w' ⟨r5, rfl, hr, hb⟩; have n0_ := md_ (below_step HB.out hb); have hv5 := md_ hr; have k0_ := md_ (hv3.out.below hb); clear HB hb hr hv3; have HB := n0_; have hv3 := k0_; clear n0_ k0_) | (go_at_call 75; (with_reducible refine (D.out _ _ _ hv3.out hv5.out).mono ?_); rintro e w' ⟨rq, rr, rfl, hr, hr2, hb⟩; have n0_ := md_ (below_step HB.out hb); have hrr := md_ hr2; obtain ⟨Aq, cq, haq, -, -, -⟩ := hr.open; rw [HQL.out] at haq; subst haq; have hq := md_ hr; clear hr2; have k0_ := md_ (hv5.out.below hb); clear HB hb hr hv5; have HB := n0_; have hv5 := k0_; clear n0_ k0_))
 by_cases hQ0 : Q = 0
 ·have hq2 : Q % 2 = 0 := by rw [hQ0]
  have : LQ = 0 := by rw [← hLQ, hQ0, Num.wordsN_zero]; rfl
  subst this
  clear hQ0 hLQ
  go_upto_region 6 with (first | (go_at_call 76; (with_reducible refine (S3.out _ _ hrr.out).mono ?_); rintro e w' ⟨r6, rfl, hr, hb⟩; have n0_ := md_ (below_step HB.out hb); have hv6 := md_ hr; have k0_ := md_ (hv5.out.below hb); have k1_ := md_ (hq.out.below hb); clear HB hb hr hv5 hq; have HB := n0_; have hv5 := k0_; have hq := k1_; clear n0_ k0_ k1_) | (go_at_call 94; (with_reducible refine (CC.out _ _ _ hv6.out hv5.out).mono ?_); rintro e w' ⟨rfl, hb⟩; have hr := 0; have n0_ := md_ (below_step HB.out hb); have k0_ := md_ (hq.out.below hb); clear HB hb hr hq; have HB := n0_; have hq := k0_; clear n0_ k0_))
  rcases hcc3 with ⟨hc1, hc2⟩ | ⟨hc1, hc2⟩ | ⟨hc1, hc2⟩
  ·have hb := md_ (hup (by omega))
   subst hc2
   clear hup hno hc1 hq2
   go_wp2_with (first | ((with_reducible refine gate_dst (N := 63) rfl ?_); refine Kd.R_lit (Kd.int .u32) _ 35 ?hg (N := 63) ?hd (xs := ([1] : List Int)) (inner := [.int .u32 1]) (ok := fun _ => True) (okp := fun _ => True) ?hr ?hp (fun _ hk => hk) trivial (Below.refl _ _) (Nat.le_refl _) (by simp) ?_; (case hd => rfl); (case hg => rfl); (case hr => first | (go_simp; done) | (go_simp; rfl)); (case hp => exact (Reps.one (show Kd.M (Kd.int .u32) _ _ _ 1 [.int .u32 1] from rfl) (Reps.none _ _))); intro v1 w1 ho hb hg_ hnew_; clear hg_ hnew_; have h1 := md_ (show Nm w1 v1 1 from Nm.of_R (by rw [words_one]; exact ho)); have n0_ := md_ (below_step HB.out hb); clear ho; have hr := 0; have k0_ := md_ (hq.out.below hb); clear HB hb hr hq; have HB := n0_; have hq := k0_; clear n0_ k0_) | (go_at_call 77; (with_reducible refine (AA.out _ _ _ hq.out h1.out).mono ?_); rintro e w' ⟨r7, rfl, hr, hb⟩; have n0_ := md_ (below_step HB.out hb); have hq1 := md_ hr; clear HB hb hr ; have HB := n0_; clear n0_) | (go_at_call 95; (with_reducible refine (TX1.out _ _ hq1.out).mono ?_); rintro e w' ⟨rfl, hb⟩; have hr := 0; replace HB := bt_ HB hb; clear hb hr))
   go_ret
   exact ⟨by rw [hb.out]; rfl, HB.out⟩
  ·have hb := md_ (hno (by omega))
   subst hc2
   clear hup hno hc1 hq2
   go_wp2_with (first | (go_at_call 95; (with_reducible refine (TX0.out _ _ hq.out).mono ?_); rintro e w' ⟨rfl, hb⟩; have hr := 0; replace HB := bt_ HB hb; clear hb hr))
   go_ret
   exact ⟨by rw [hb.out]; rfl, HB.out⟩
  ·have hb := md_ (hno (by omega))
   subst hc2
   clear hup hno hc1 hq2
   go_wp2_with (first | (go_at_call 95; (with_reducible refine (TX0.out _ _ hq.out).mono ?_); rintro e w' ⟨rfl, hb⟩; have hr := 0; replace HB := bt_ HB hb; clear hb hr))
   go_ret
   exact ⟨by rw [hb.out]; rfl, HB.out⟩
 have hlen : 0 < LQ := by
  rw [← hLQ]
  rcases Nat.eq_zero_or_pos (Num.wordsN Q).length with z | z
  ·exfalso
   apply hQ0
   rw [← Num.wordsN_val Q, List.eq_nil_of_length_eq_zero z]
   rfl
  ·exact z
 have g1 := decide_eq_true (show (0 : Int) < (LQ : Int) by omega)
 have g2 : (0 : Int) < (LQ : Int) := by omega
 obtain ⟨ad, had, hz⟩ := head_word hq.out HQL.out hlen
 subst had
 obtain ⟨y, hy⟩ : ∃ z : Int, ((Q % 4294967296 : Nat) : Int) = z := ⟨_, rfl⟩
 have hpar := par_word Q
 rw [hy] at hpar hz
 clear hlen hLQ hQ0 hy
 by_cases hq2 : Q % 2 = 1
 ·rw [hq2] at hpar
  have hpar2 : bits .and .u32 y 1 = 1 := hpar
  clear hpar
  go_upto_region 6 with (first | (go_at_call 76; (with_reducible refine (S3.out _ _ hrr.out).mono ?_); rintro e w' ⟨r6, rfl, hr, hb⟩; have n0_ := md_ (below_step HB.out hb); have hv6 := md_ hr; have k0_ := md_ (hv5.out.below hb); have k1_ := md_ (hq.out.below hb); clear HB hb hr hv5 hq; have HB := n0_; have hv5 := k0_; have hq := k1_; clear n0_ k0_ k1_) | (go_at_call 94; (with_reducible refine (CC.out _ _ _ hv6.out hv5.out).mono ?_); rintro e w' ⟨rfl, hb⟩; have hr := 0; have n0_ := md_ (below_step HB.out hb); have k0_ := md_ (hq.out.below hb); clear HB hb hr hq; have HB := n0_; have hq := k0_; clear n0_ k0_))
  rcases hcc3 with ⟨hc1, hc2⟩ | ⟨hc1, hc2⟩ | ⟨hc1, hc2⟩
  ·have hb := md_ (hup (by omega))
   subst hc2
   clear hup hno hc1 hq2
   go_wp2_with (first | ((with_reducible refine gate_dst (N := 63) rfl ?_); refine Kd.R_lit (Kd.int .u32) _ 35 ?hg (N := 63) ?hd (xs := ([1] : List Int)) (inner := [.int .u32 1]) (ok := fun _ => True) (okp := fun _ => True) ?hr ?hp (fun _ hk => hk) trivial (Below.refl _ _) (Nat.le_refl _) (by simp) ?_; (case hd => rfl); (case hg => rfl); (case hr => first | (go_simp; done) | (go_simp; rfl)); (case hp => exact (Reps.one (show Kd.M (Kd.int .u32) _ _ _ 1 [.int .u32 1] from rfl) (Reps.none _ _))); intro v1 w1 ho hb hg_ hnew_; clear hg_ hnew_; have h1 := md_ (show Nm w1 v1 1 from Nm.of_R (by rw [words_one]; exact ho)); have n0_ := md_ (below_step HB.out hb); clear ho; have hr := 0; have k0_ := md_ (hq.out.below hb); clear HB hb hr hq; have HB := n0_; have hq := k0_; clear n0_ k0_) | (go_at_call 77; (with_reducible refine (AA.out _ _ _ hq.out h1.out).mono ?_); rintro e w' ⟨r7, rfl, hr, hb⟩; have n0_ := md_ (below_step HB.out hb); have hq1 := md_ hr; clear HB hb hr ; have HB := n0_; clear n0_) | (go_at_call 95; (with_reducible refine (TX1.out _ _ hq1.out).mono ?_); rintro e w' ⟨rfl, hb⟩; have hr := 0; replace HB := bt_ HB hb; clear hb hr))
   go_ret
   exact ⟨by rw [hb.out]; rfl, HB.out⟩
  ·have hb := md_ (hup (by omega))
   subst hc2
   clear hup hno hc1 hq2
   go_wp2_with (first | ((with_reducible refine gate_dst (N := 63) rfl ?_); refine Kd.R_lit (Kd.int .u32) _ 35 ?hg (N := 63) ?hd (xs := ([1] : List Int)) (inner := [.int .u32 1]) (ok := fun _ => True) (okp := fun _ => True) ?hr ?hp (fun _ hk => hk) trivial (Below.refl _ _) (Nat.le_refl _) (by simp) ?_; (case hd => rfl); (case hg => rfl); (case hr => first | (go_simp; done) | (go_simp; rfl)); (case hp => exact (Reps.one (show Kd.M (Kd.int .u32) _ _ _ 1 [.int .u32 1] from rfl) (Reps.none _ _))); intro v1 w1 ho hb hg_ hnew_; clear hg_ hnew_; have h1 := md_ (show Nm w1 v1 1 from Nm.of_R (by rw [words_one]; exact ho)); have n0_ := md_ (below_step HB.out hb); clear ho; have hr := 0; have k0_ := md_ (hq.out.below hb); clear HB hb hr hq; have HB := n0_; have hq := k0_; clear n0_ k0_) | (go_at_call 77; (with_reducible refine (AA.out _ _ _ hq.out h1.out).mono ?_); rintro e w' ⟨r7, rfl, hr, hb⟩; have n0_ := md_ (below_step HB.out hb); have hq1 := md_ hr; clear HB hb hr ; have HB := n0_; clear n0_) | (go_at_call 95; (with_reducible refine (TX1.out _ _ hq1.out).mono ?_); rintro e w' ⟨rfl, hb⟩; have hr := 0; replace HB := bt_ HB hb; clear hb hr))
   go_ret
   exact ⟨by rw [hb.out]; rfl, HB.out⟩
  ·have hb := md_ (hno (by omega))
   subst hc2
   clear hup hno hc1 hq2
   go_wp2_with (first | (go_at_call 95; (with_reducible refine (TX0.out _ _ hq.out).mono ?_); rintro e w' ⟨rfl, hb⟩; have hr := 0; replace HB := bt_ HB hb; clear hb hr))
   go_ret
   exact ⟨by rw [hb.out]; rfl, HB.out⟩
 ·replace hq2 : Q % 2 = 0 := by omega
  rw [hq2] at hpar
  have hpar2 : bits .and .u32 y 1 = 0 := hpar
  clear hpar
  go_upto_region 6 with (first | (go_at_call 76; (with_reducible refine (S3.out _ _ hrr.out).mono ?_); rintro e w' ⟨r6, rfl, hr, hb⟩; have n0_ := md_ (below_step HB.out hb); have hv6 := md_ hr; have k0_ := md_ (hv5.out.below hb); have k1_ := md_ (hq.out.below hb); clear HB hb hr hv5 hq; have HB := n0_; have hv5 := k0_; have hq := k1_; clear n0_ k0_ k1_) | (go_at_call 94; (with_reducible refine (CC.out _ _ _ hv6.out hv5.out).mono ?_); rintro e w' ⟨rfl, hb⟩; have hr := 0; have n0_ := md_ (below_step HB.out hb); have k0_ := md_ (hq.out.below hb); clear HB hb hr hq; have HB := n0_; have hq := k0_; clear n0_ k0_))
  rcases hcc3 with ⟨hc1, hc2⟩ | ⟨hc1, hc2⟩ | ⟨hc1, hc2⟩
  ·have hb := md_ (hup (by omega))
   subst hc2
   clear hup hno hc1 hq2
   go_wp2_with (first | ((with_reducible refine gate_dst (N := 63) rfl ?_); refine Kd.R_lit (Kd.int .u32) _ 35 ?hg (N := 63) ?hd (xs := ([1] : List Int)) (inner := [.int .u32 1]) (ok := fun _ => True) (okp := fun _ => True) ?hr ?hp (fun _ hk => hk) trivial (Below.refl _ _) (Nat.le_refl _) (by simp) ?_; (case hd => rfl); (case hg => rfl); (case hr => first | (go_simp; done) | (go_simp; rfl)); (case hp => exact (Reps.one (show Kd.M (Kd.int .u32) _ _ _ 1 [.int .u32 1] from rfl) (Reps.none _ _))); intro v1 w1 ho hb hg_ hnew_; clear hg_ hnew_; have h1 := md_ (show Nm w1 v1 1 from Nm.of_R (by rw [words_one]; exact ho)); have n0_ := md_ (below_step HB.out hb); clear ho; have hr := 0; have k0_ := md_ (hq.out.below hb); clear HB hb hr hq; have HB := n0_; have hq := k0_; clear n0_ k0_) | (go_at_call 77; (with_reducible refine (AA.out _ _ _ hq.out h1.out).mono ?_); rintro e w' ⟨r7, rfl, hr, hb⟩; have n0_ := md_ (below_step HB.out hb); have hq1 := md_ hr; clear HB hb hr ; have HB := n0_; clear n0_) | (go_at_call 95; (with_reducible refine (TX1.out _ _ hq1.out).mono ?_); rintro e w' ⟨rfl, hb⟩; have hr := 0; replace HB := bt_ HB hb; clear hb hr))
   go_ret
   exact ⟨by rw [hb.out]; rfl, HB.out⟩
  ·have hb := md_ (hno (by omega))
   subst hc2
   clear hup hno hc1 hq2
   go_wp2_with (first | (go_at_call 95; (with_reducible refine (TX0.out _ _ hq.out).mono ?_); rintro e w' ⟨rfl, hb⟩; have hr := 0; replace HB := bt_ HB hb; clear hb hr))
   go_ret
   exact ⟨by rw [hb.out]; rfl, HB.out⟩
  ·have hb := md_ (hno (by omega))
   subst hc2
   clear hup hno hc1 hq2
   go_wp2_with (first | (go_at_call 95; (with_reducible refine (TX0.out _ _ hq.out).mono ?_); rintro e w' ⟨rfl, hb⟩; have hr := 0; replace HB := bt_ HB hb; clear hb hr))
   go_ret
   exact ⟨by rw [hb.out]; rfl, HB.out⟩
end Go.Proofs.YtdoeigngpemcgaaGreatDoor.Dec
namespace Go.Flt
open Go.Num
theorem two_ten (k : Nat) : 2 ^ (3 * k) ≤ 10 ^ k := by
 rw [Nat.pow_mul]
 exact Nat.pow_le_pow_left (by decide) k
theorem bits_le_of {m b : Nat} (h : m < 2 ^ b) : bitsN m ≤ b := by
 rcases Nat.eq_zero_or_pos m with z | z
 ·subst z; rw [bitsN_zero]; omega
 ·rcases Nat.lt_or_ge b (bitsN m) with q | q
  ·exfalso
   have h1 := bitsN_le z
   have h3 : 2 ^ b ≤ 2 ^ (bitsN m - 1) := Nat.pow_le_pow_right (by decide) (by omega)
   omega
  ·exact q
theorem bits_gt_of {m b : Nat} (h : 2 ^ b ≤ m) : b < bitsN m := by
 rcases Nat.lt_or_ge b (bitsN m) with q | q
 ·exact q
 ·have h1 := bitsN_lt m
  have h3 : 2 ^ bitsN m ≤ 2 ^ b := Nat.pow_le_pow_right (by decide) q
  omega
theorem fl_small {p q t : Nat} (hq : 0 < q) (h : p * 2 ^ t ≤ q) (ht : 1100 ≤ t) : fl p q = 0 := by
 rcases Nat.eq_zero_or_pos p with z | hp
 ·subst z; exact fl_zero q
 obtain ⟨k, hk⟩ : ∃ k, k = bitsN q + 53 + t := ⟨_, rfl⟩
 rw [← fl_at hp hq k (by omega)]
 apply mkN_small
 have h1 : p * 2 ^ k ≤ q * 2 ^ (k - t) := by
  rw [show k = t + (k - t) by omega, Nat.pow_add, ← Nat.mul_assoc, show t + (k - t) - t = k - t by omega]
  exact Nat.mul_le_mul_right _ h
 have h2 : p * 2 ^ k / q ≤ 2 ^ (k - t) := by
  have := Nat.div_le_div_right (c := q) h1
  rw [Nat.mul_div_cancel_left _ hq] at this
  exact this
 have h3 : sq (p * 2 ^ k) q < 2 ^ (k - t + 2) := by
  have := Nat.two_pow_pos (k - t)
  rw [Nat.pow_add]
  unfold sq
  split <;> omega
 have := bits_le_of h3
 omega
theorem mkN_huge {v t : Nat} (h : 2 ^ t ≤ v) (ht : 1030 ≤ t) : mkN v 0 = 9218868437227405312 := by
 have h1 := bits_gt_of h
 have := Nat.two_pow_pos t
 apply mkN_big (by omega)
 unfold expo
 omega
theorem flt_low {m k : Nat} {e : Int} (he : e < 0) (hk : 400 ≤ k) (h : m * 10 ^ k ≤ 10 ^ (-e).toNat) : flt m e = 0 := by
 unfold flt
 split
 ·rfl
 ·rw [if_neg (by omega)]
  refine fl_small (t := 3 * k) (Nat.pow_pos (by decide)) (Nat.le_trans (Nat.mul_le_mul_left _ (two_ten k)) h) (by omega)
theorem flt_high {m k : Nat} {e : Int} (he : 0 ≤ e) (hk : 400 ≤ k) (h : 10 ^ k ≤ m * 10 ^ e.toNat) : flt m e = 9218868437227405312 := by
 have hp := Nat.two_pow_pos (3 * k)
 have h1 := Nat.le_trans (two_ten k) h
 unfold flt
 rw [if_neg (by rintro rfl; rw [Nat.zero_mul] at h1; omega), if_pos he, fl_one (by omega)]
 exact mkN_huge h1 (by omega)
theorem flt_nil (e : Int) : flt 0 e = 0 := by
 unfold flt
 rw [if_pos rfl]
end Go.Flt
namespace Go.Flt
open Go.Proofs.YtdoeigngpemcgaaGreatDoor
theorem rch_pred {m : Nat} {e k : Int} (h : rch m e k = true) : rch m e (k - 1) = true := by
 unfold rch at *
 rw [decide_eq_true_iff] at *
 unfold lhs rhs at *
 rcases Int.lt_or_le 0 k with c | c
 ·obtain ⟨j, hj⟩ : ∃ j, k.toNat = j + 1 := ⟨k.toNat - 1, by omega⟩
  rw [show (k - 1).toNat = j by omega, show (-(k - 1)).toNat = (-k).toNat by omega]
  rw [hj, Nat.pow_succ, Nat.mul_right_comm] at h
  have h0 : 10 ^ j * 2 ^ (-e).toNat * 1 ≤ 10 ^ j * 2 ^ (-e).toNat * 10 := Nat.mul_le_mul_left _ (by decide)
  omega
 ·rw [show (k - 1).toNat = 0 by omega, show (-(k - 1)).toNat = (-k).toNat + 1 by omega, Nat.pow_succ, ← Nat.mul_assoc, Nat.mul_right_comm _ 10]
  rw [show k.toNat = 0 by omega] at h
  have h0 : m * 10 ^ (-k).toNat * 2 ^ e.toNat * 1 ≤ m * 10 ^ (-k).toNat * 2 ^ e.toNat * 10 := Nat.mul_le_mul_left _ (by decide)
  omega
theorem rch_le {m : Nat} {e j k : Int} (h : rch m e k = true) (hj : j ≤ k) : rch m e j = true := by
 obtain ⟨n, hn⟩ : ∃ n : Nat, k = j + n := ⟨(k - j).toNat, by omega⟩
 subst hn
 clear hj
 induction n with
 | zero => simpa using h
 | succ n ih =>
  apply ih
  have := rch_pred h
  rw [show j + ((n + 1 : Nat) : Int) - 1 = j + (n : Int) by omega] at this
  exact this
def Dex (m : Nat) (e D : Int) : Prop := rch m e (D - 1) = true ∧ rch m e D = false
theorem Dex.lt {m : Nat} {e D x : Int} (h : Dex m e D) (k : rch m e x = true) : x < D := by
 rcases Int.lt_or_le x D with c | c
 ·exact c
 ·have := rch_le k c
  rw [h.2] at this
  cases this
theorem Dex.ge {m : Nat} {e D x : Int} (h : Dex m e D) (k : rch m e x = false) : D ≤ x := by
 rcases Int.lt_or_le x D with c | c
 ·have := rch_le h.1 (show x ≤ D - 1 by omega)
  rw [k] at this
  cases this
 ·exact c
theorem rch_low {m : Nat} {e : Int} (hm : 0 < m) (he : -1074 ≤ e) : rch m e (-336) = true := by
 unfold rch lhs rhs
 rw [decide_eq_true_iff, show (-336 : Int).toNat = 0 from rfl, Nat.pow_zero, Nat.one_mul, show (-(-336) : Int).toNat = 336 from rfl]
 obtain ⟨K, hK⟩ : ∃ K, K = 336 := ⟨_, rfl⟩
 obtain ⟨t, ht⟩ : ∃ t, t = 12 := ⟨_, rfl⟩
 rw [← hK]
 have h2 : 2 ^ (-e).toNat ≤ 10 ^ K := by
  refine Nat.le_trans (Nat.pow_le_pow_right (by decide) (show (-e).toNat ≤ 93 * t by omega)) ?_
  rw [Nat.pow_mul, show K = 28 * t by omega, Nat.pow_mul]
  exact Nat.pow_le_pow_left (by decide) t
 have h3 : 1 * 10 ^ K ≤ m * 10 ^ K := Nat.mul_le_mul_right _ hm
 have h4 : m * 10 ^ K * 1 ≤ m * 10 ^ K * 2 ^ e.toNat := Nat.mul_le_mul_left _ (Nat.two_pow_pos _)
 omega
theorem rch_high {m : Nat} {e : Int} (hm : m < 2 ^ 53) (he : e ≤ 971) : rch m e 342 = false := by
 unfold rch lhs rhs
 rw [decide_eq_false_iff_not, show (342 : Int).toNat = 342 from rfl, show (-342 : Int).toNat = 0 from rfl, Nat.pow_zero, Nat.mul_one]
 obtain ⟨K, hK⟩ : ∃ K, K = 342 := ⟨_, rfl⟩
 rw [← hK]
 have h1 : m * 2 ^ e.toNat < 2 ^ 53 * 2 ^ e.toNat := Nat.mul_lt_mul_of_pos_right hm (Nat.two_pow_pos _)
 rw [← Nat.pow_add] at h1
 have h2 : 2 ^ (53 + e.toNat) ≤ 2 ^ (3 * K) := Nat.pow_le_pow_right (by decide) (by omega)
 have h3 := two_ten K
 have h4 : 10 ^ K * 1 ≤ 10 ^ K * 2 ^ (-e).toNat := Nat.mul_le_mul_left _ (Nat.two_pow_pos _)
 omega
theorem Dex.some {m : Nat} {e : Int} (hm : 0 < m) (hm2 : m < 2 ^ 53) (he : -1074 ≤ e) (he2 : e ≤ 971) : ∃ D, Dex m e D ∧ -335 ≤ D ∧ D ≤ 342 := by
 have key : ∀ n : Nat, rch m e (-336 + n) = false → ∃ D, Dex m e D ∧ -335 ≤ D ∧ D ≤ -336 + n := by
  intro n
  induction n with
  | zero =>
   intro h
   have := rch_low hm he
   simp at h
   rw [h] at this
   cases this
  | succ n ih =>
   intro h
   cases c : rch m e (-336 + n) with
   | true =>
    refine ⟨-336 + ((n + 1 : Nat) : Int), ⟨?_, h⟩, by omega, by omega⟩
    rw [show -336 + ((n + 1 : Nat) : Int) - 1 = -336 + (n : Int) by omega]
    exact c
   | false =>
    obtain ⟨D, hD, h1, h2⟩ := ih c
    exact ⟨D, hD, h1, by omega⟩
 obtain ⟨D, hD, h1, h2⟩ := key 678 (rch_high hm2 he2)
 exact ⟨D, hD, h1, by omega⟩
theorem Dex.bound {m : Nat} {e D : Int} (h : Dex m e D) (hm : 0 < m) (hm2 : m < 2 ^ 53) (he : -1074 ≤ e) (he2 : e ≤ 971) : -335 ≤ D ∧ D ≤ 342 := by
 have h1 := h.lt (rch_low hm he)
 have h2 := h.ge (rch_high hm2 he2)
 omega
def repT (m : Nat) (e n D : Int) : List UInt8 := (Num.textN (nearN m e (D - n))).take n.toNat
def repX (m : Nat) (e n D : Int) : Int := if n < (Num.textN (nearN m e (D - n))).length then D + 1 else D
end Go.Flt
namespace Go.Proofs.YtdoeigngpemcgaaGreatDoor.Dec
open Go.RowKit Go.Flt PDec Go.Proofs.YtdoeigngpemcgaaGreatDoor.Pure YtdoeigngpemcgaaGreatDoorW.PrintWords YtdoeigngpemcgaaGreatDoorW.PrintLast YtdoeigngpemcgaaGreatDoorW.PrintMore
theorem abs_and (a : Nat) (ha : a < 18446744073709551616) : bits .andNot .u64 (a : Int) 9223372036854775808 = ((a % 9223372036854775808 : Nat) : Int) := by
 rw [show (9223372036854775808 : Int) = ((9223372036854775808 : Nat) : Int) from rfl, u64_andNot_nat _ _ ha (by decide), show (18446744073709551615 - 9223372036854775808 : Nat) = 2 ^ 63 - 1 from rfl, Nat.and_two_pow_sub_one_eq_mod]
theorem res_four {fn : Func} {t u v x : Tmp} (h : fn.results = #[.tmp t, .tmp u, .tmp v, .tmp x]) (tmps : Array Value) (P : Program) (w : World) :
  (results fn tmps).run P w = .ok (.tuple #[tmps.getD t undef, tmps.getD u undef, tmps.getD v undef, tmps.getD x undef]) w := by
 simp [results, h]
theorem two_V (W : World) (lo hi : Int) : Kd.V (Kd.int .u32) 35 (W.alloc (.cells #[.int .u32 lo, .int .u32 hi] 35)) 0 (fun _ => True) (.slice (some ⟨W.heap.size, 0, none⟩) 2 2) [lo, hi] := by
 have h : Kd.R (Kd.int .u32) 35 (W.alloc (.cells #[.int .u32 lo, .int .u32 hi] 35)) W.heap.size (fun _ => True) (.slice (some ⟨W.heap.size, 0, none⟩) 2 2) [lo, hi] :=
  ⟨fun _ _ => trivial, [.int .u32 lo, .int .u32 hi], World.ownsRow_lit W _ 2 (Nat.le_refl _) (by simp [maxLen]) rfl, Reps.one (show Kd.M (Kd.int .u32) _ _ _ lo [.int .u32 lo] from rfl) (Reps.one (show Kd.M (Kd.int .u32) _ _ _ hi [.int .u32 hi] from rfl) (Reps.none _ _))⟩
 exact Kd.V_mono (Kd.V_map (Kd.R_V (base' := 0) h) (fun _ hf => hf)) (fun _ _ => trivial)
def fnan (a : Nat) : Bool := decide (9218868437227405312 < a % 9223372036854775808)
def finf (a : Nat) : Bool := decide (a % 9223372036854775808 = 9218868437227405312)
def ffin (a : Nat) : Bool := decide (a % 9223372036854775808 < 9218868437227405312)
theorem s_isNaN (w : World) (a : Nat) (ha : a < 18446744073709551616) : Calls Tryz.prog 59 #[.int .u64 (a : Int)] w fun e w' => e = .returned (.bool (fnan a)) ∧ Drawn0 w w' := by
 refine soft_isNaN.calls _ _ w ?_
 unfold soft_isNaN.f fnan
 rw [abs_and a ha]
 congr 1
 rw [decide_eq_decide]
 omega
theorem s_isInf (w : World) (a : Nat) (ha : a < 18446744073709551616) : Calls Tryz.prog 83 #[.int .u64 (a : Int)] w fun e w' => e = .returned (.bool (finf a)) ∧ Drawn0 w w' := by
 refine soft_isInf.calls _ _ w ?_
 unfold soft_isInf.f finf
 rw [abs_and a ha]
 congr 1
 rw [Bool.eq_iff_iff, beq_iff_eq, decide_eq_true_iff]
 omega
theorem ffin_iff (a : Nat) : ffin a = (!(fnan a) && !(finf a)) := by
 unfold ffin fnan finf
 rw [Bool.eq_iff_iff, Bool.and_eq_true, Bool.not_eq_true', Bool.not_eq_true', decide_eq_true_iff, decide_eq_false_iff_not, decide_eq_false_iff_not]
 omega
set_option maxRecDepth 100000 in
theorem s_Split_bad (w : World) (a : Nat) (ha : a < 18446744073709551616) (h : ffin a = false) : Calls Tryz.prog 36 #[.int .u64 (a : Int)] w fun e w' => e = .returned (.tuple #[.bool false, .slice none 0 0, .int .i64 0, .bool false]) ∧ Below w.heap.size w w' := by
 have HN := md_ (fun w => s_isNaN w a ha)
 have HI := md_ (fun w => s_isInf w a ha)
 rw [ffin_iff] at h
 obtain ⟨aa, haa⟩ : ∃ z : Int, (a : Int) = z := ⟨_, rfl⟩
 rw [haa] at HN HI ⊢
 have HB := md_ (Below.refl w.heap.size w)
 cases hn : fnan a with
 | true =>
  rw [hn] at HN
  clear hn h HI ha haa
  go_enter Tryz.func36, Tryz.ntmps36
  go_wp2_with (go_at_call 59; (with_reducible refine (HN.out _).mono ?_); rintro e w' ⟨rfl, ⟨nd, rfl⟩⟩)
  refine bodyPost_ret (res_four rfl _ _ _) rfl ?_
  exact ⟨rfl, by repeat (first | exact HB.out | apply pw_below_drewN)⟩
 | false =>
  have hi : finf a = true := by
   rw [hn] at h
   simpa using h
  rw [hn] at HN
  rw [hi] at HI
  clear hn hi h ha haa
  go_enter Tryz.func36, Tryz.ntmps36
  go_wp2_with (first | (go_at_call 59; (with_reducible refine (HN.out _).mono ?_); rintro e w' ⟨rfl, ⟨nd, rfl⟩⟩) | (go_at_call 83; (with_reducible refine (HI.out _).mono ?_); rintro e w' ⟨rfl, ⟨nd2, rfl⟩⟩))
  refine bodyPost_ret (res_four rfl _ _ _) rfl ?_
  exact ⟨rfl, by repeat (first | exact HB.out | apply pw_below_drewN)⟩
set_option maxRecDepth 100000 in
theorem s_Split_good (w : World) (a : Nat) (ha : a < 18446744073709551616) (h : ffin a = true) : Calls Tryz.prog 36 #[.int .u64 (a : Int)] w fun e w' => ∃ v, e = .returned (.tuple #[.bool (fneg a), v, .int .i64 (fpow a), .bool true]) ∧ Nm w' v (fmant a) ∧ Below w.heap.size w w' := by
 have hu102 := Tryz.underlying102
 have HN := md_ (fun w => s_isNaN w a ha)
 have HI := md_ (fun w => s_isInf w a ha)
 have HS := md_ (fun w => s_split w a ha)
 rw [ffin_iff, Bool.and_eq_true, Bool.not_eq_true', Bool.not_eq_true'] at h
 rw [h.1] at HN
 rw [h.2] at HI
 obtain ⟨aa, haa⟩ : ∃ z : Int, (a : Int) = z := ⟨_, rfl⟩
 rw [haa] at HN HI HS ⊢
 have HB := md_ (Below.refl w.heap.size w)
 obtain ⟨neg, hneg⟩ : ∃ z, fneg a = z := ⟨_, rfl⟩
 obtain ⟨m, hm⟩ : ∃ z : Int, ((fmant a : Nat) : Int) = z := ⟨_, rfl⟩
 obtain ⟨p, hp⟩ : ∃ z, fpow a = z := ⟨_, rfl⟩
 rw [hneg, hm, hp] at HS
 rw [hneg, hp]
 have hmb : 0 ≤ m ∧ m < 9007199254740992 := by
  have : fmant a < 9007199254740992 := by unfold fmant; split <;> omega
  omega
 obtain ⟨lo, hlo⟩ : ∃ z : Int, m % 4294967296 = z := ⟨_, rfl⟩
 obtain ⟨hi, hhi⟩ : ∃ z : Int, m / 4294967296 = z := ⟨_, rfl⟩
 have hhi2 : hi % 4294967296 = hi := by omega
 have HNorm : Aside0 (∀ w v, Kd.V (Kd.int .u32) 35 w 0 (fun _ => True) v [lo, hi] → Calls Tryz.prog 85 #[v] w fun e w' => ∃ r, e = .returned r ∧ Nm w' r (fmant a) ∧ Below w.heap.size w w') := ⟨fun w v hv => by
  obtain ⟨A, c, rfl⟩ := Kd.V_slice hv
  obtain ⟨_, h2, h3⟩ := Kd.V_reads' hv
  have := n_Norm (l := [lo, hi]) h3 h2 (by intro x hx; simp at hx; rcases hx with rfl | rfl <;> omega) (by simp)
  rw [show Num.valN [lo, hi] = fmant a by simp [Num.valN]; omega] at this
  exact this⟩
 clear h ha haa hmb hm hp hneg
 go_enter Tryz.func36, Tryz.ntmps36
 go_upto_region 4 with (first | (go_at_call 59; (with_reducible refine (HN.out _).mono ?_); rintro e w' ⟨rfl, ⟨nd, rfl⟩⟩) | (go_at_call 83; (with_reducible refine (HI.out _).mono ?_); rintro e w' ⟨rfl, ⟨nd2, rfl⟩⟩) | (go_at_call 84; (with_reducible refine (HS.out _).mono ?_); rintro e w' ⟨rfl, hb⟩; replace HB := md_ (below_step (by repeat (first | exact HB.out | apply pw_below_drewN)) hb); clear hb))
 obtain ⟨g, hg⟩ : ∃ g, w'.heap.size = g := ⟨_, rfl⟩
 generalize hW : w'.alloc (Obj.cells #[Value.bool neg, Value.int IntKind.u64 m, Value.int IntKind.i64 p] 102) = W1
 have BK := md_ (show W1.heap[g]? = some (.cells #[.bool neg, .int .u64 m, .int .i64 p] 102 (0, 0)) by rw [← hW, ← hg]; exact blk_new _ _)
 have n0_ := md_ (show Below w.heap.size w W1 by rw [← hW]; exact HB.out.alloc (below_size HB.out) _)
 clear HB
 have HB := n0_
 clear n0_ hW
 rw [hg]
 clear hg
 have z0 : W1.cell? ⟨g, 0, none⟩ = some (.bool neg) := (blk_cell BK.out 0).trans rfl
 have z1 : W1.cell? ⟨g, 1, none⟩ = some (.int .u64 m) := (blk_cell BK.out 1).trans rfl
 have z2 : W1.cell? ⟨g, 2, none⟩ = some (.int .i64 p) := (blk_cell BK.out 2).trans rfl
 have u1 : IntKind.u32.wrap m = lo := by rw [IntKind.wrap_u32]; exact hlo
 have u2 : IntKind.u32.wrap hi = hi := by rw [IntKind.wrap_u32]; exact hhi2
 go_region_held3 (fun w' => w'.cell? ⟨g, 0, none⟩ = some (.bool neg) ∧ w'.cell? ⟨g, 1, none⟩ = some (.int .u64 m) ∧ w'.cell? ⟨g, 2, none⟩ = some (.int .i64 p) ∧ Below w.heap.size w w')
  (((try go_split_ands); refine ⟨?_, ?_, ?_, ?_⟩ <;> first
   | assumption
   | exact HB.out
   | exact pw_cell_below hb_ (by assumption)
   | exact pw_cell_below (below_drew (Below.refl _ _)) (by assumption)
   | exact pw_cell_below (below_drew (below_alloc (Below.refl _ _) _)) (by assumption)
   | exact pw_cell_below (below_alloc (Below.refl _ _) _) (by assumption)
   | exact below_drew (by assumption)
   | exact below_drew HB.out
   | exact below_alloc HB.out _
   | exact below_drew (below_alloc HB.out _)
   | exact below_alloc (by assumption) _
   | exact below_drew (below_alloc (by assumption) _)
   | exact Below.trans (by assumption) (hb_.mono (Below.size (by assumption)))))
  (first
   | (go_at_call 85; go_split_ands; (refine (HNorm.out _ _ (Kd.V_below (two_V _ lo hi) (by repeat (first | exact Below.refl _ _ | apply below_drew)))).mono ?_); rintro e w2 ⟨r, rfl, hr, hb_⟩; have hr' := md_ hr; clear hr))
 (try go_split_ands)
 go_wp2
 refine bodyPost_ret (res_four rfl _ _ _) rfl ?_
 exact ⟨_, rfl, hr'.out, by assumption⟩
end Go.Proofs.YtdoeigngpemcgaaGreatDoor.Dec
namespace Go.Read
open Go.Proofs.YtdoeigngpemcgaaGreatDoor
def hasM (of l : List UInt8) : Bool := match l with | [] => false | c :: _ => of.contains c
def lead (of l : List UInt8) : Nat := match l with | [] => 0 | c :: _ => if of.contains c then c.toNat else 0
def after (of l : List UInt8) : List UInt8 := if hasM of l then l.tail else l
def minus (l : List UInt8) : Bool := match l with | [] => false | c :: _ => c == 45
def isd (c : UInt8) : Bool := decide (48 ≤ c.toNat) && decide (c.toNat ≤ 57)
def dg (l : List UInt8) : List UInt8 := l.takeWhile isd
def past (l : List UInt8) : List UInt8 := l.dropWhile isd
def trim0 (l : List UInt8) : List UInt8 := l.dropWhile (· == 48)
def expo (neg : Bool) (l : List UInt8) : Int :=
 let n : Int := ((if 5 < (trim0 l).length then 99999 else Num.decL 0 (trim0 l) : Nat) : Int)
 if neg then -n else n
theorem dg_past (l : List UInt8) : dg l ++ past l = l := List.takeWhile_append_dropWhile
theorem dg_len (l : List UInt8) : (dg l).length ≤ l.length := by
 have := congrArg List.length (dg_past l)
 rw [List.length_append] at this
 omega
theorem dg_take (l : List UInt8) : l.take (dg l).length = dg l := by
 have : (dg l ++ past l).take (dg l).length = dg l := List.take_left
 rw [dg_past] at this
 exact this
theorem past_drop (l : List UInt8) : l.drop (dg l).length = past l := by
 have : (dg l ++ past l).drop (dg l).length = past l := List.drop_left
 rw [dg_past] at this
 exact this
theorem dg_at (l : List UInt8) (i : Nat) (h : i < (dg l).length) : isd (l[i]'(Nat.lt_of_lt_of_le h (dg_len l))) = true := by
 induction l generalizing i with
 | nil => exact absurd h (by simp [dg])
 | cons c t ih =>
  unfold dg at h
  rw [List.takeWhile_cons] at h
  by_cases k : isd c = true
  ·rw [if_pos k] at h
   cases i with
   | zero => exact k
   | succ i => exact ih i (by simpa [dg] using h)
  ·rw [if_neg k] at h
   exact absurd h (by simp)
theorem dg_end (l : List UInt8) (n : Nat) (hn : n = (dg l).length) (h : n < l.length) : isd (l[n]'h) = false := by
 induction l generalizing n with
 | nil => exact absurd h (by simp)
 | cons c t ih =>
  by_cases k : isd c = true
  ·have e : (dg (c :: t)).length = (dg t).length + 1 := by
    unfold dg
    rw [List.takeWhile_cons, if_pos k, List.length_cons]
   subst hn
   have := ih (dg t).length rfl (by rw [e, List.length_cons] at h; omega)
   simpa [e] using this
  ·have e : (dg (c :: t)).length = 0 := by
    unfold dg
    rw [List.takeWhile_cons, if_neg k]
    rfl
   subst hn
   simpa [e] using k
end Go.Read
namespace Go.Proofs.YtdoeigngpemcgaaGreatDoor.Dec
open Go.RowKit Go.Read Go.Proofs.YtdoeigngpemcgaaGreatDoor.Pure YtdoeigngpemcgaaGreatDoorW.PrintWords YtdoeigngpemcgaaGreatDoorW.PrintLast YtdoeigngpemcgaaGreatDoorW.PrintMore
def bs (l : List UInt8) : ByteArray := ⟨l.toArray⟩
def Rd (w : World) (g : Nat) (l : List UInt8) : Prop := w.heap[g]? = some (.cells #[.string (bs l)] 46 (0, 0))
theorem bs_size (l : List UInt8) : (bs l).size = l.length := by
 show l.toArray.size = _
 exact List.size_toArray
theorem bs_list (l : List UInt8) : (bs l).toList = l := ByteArray.toList_mk l
theorem bs_ne {c : UInt8} {l : List UInt8} : ¬ (bs (c :: l)).toList = [] := by rw [bs_list]; exact fun h => by cases h
theorem bs_tail {c : UInt8} {l : List UInt8} : (bs (c :: l)).extract 1 (bs (c :: l)).size = bs l := by
 rw [bs_size]
 show (ByteArray.mk (c :: l).toArray).extract 1 _ = _
 rw [ByteArray.extract_mk]
 show (ByteArray.mk _) = ByteArray.mk _
 congr 2
 show ((c :: l).drop 1).take _ = l
 rw [List.drop_succ_cons, List.drop_zero, List.take_of_length_le (by rw [List.length_cons]; omega)]
theorem index_mark (of : List UInt8) (c : UInt8) : (Lib.indexByte of c < 0) ↔ of.contains c = false := by
 induction of with
 | nil => exact ⟨fun _ => rfl, fun _ => by show (-1 : Int) < 0; decide⟩
 | cons b l ih =>
  have hg := Lib.indexByte_ge l c
  rw [Lib.indexByte, List.contains_cons]
  by_cases h : b = c
  ·rw [if_pos (by simp [h])]
   simp [h]
  ·rw [if_neg (by simpa using h)]
   have h2 : (c == b) = false := by simp; exact fun e => h e.symm
   rw [h2, Bool.false_or, ← ih]
   by_cases d : Lib.indexByte l c = -1
   ·rw [if_pos (by simpa using d)]; omega
   ·rw [if_neg (by simpa using d)]; omega
set_option maxRecDepth 100000 in
theorem d_take (w0 w : World) (g : Nat) (of l : List UInt8) (HB0 : Below w0.heap.size w0 w) (hg : w0.heap.size ≤ g) (h : Rd w g l) :
  Calls Tryz.prog 29 #[.pointer (some ⟨g, 0, none⟩), .string (bs of)] w fun e w' => e = .returned (.tuple #[.int .u8 (lead of l : Nat), .bool (hasM of l)]) ∧ Rd w' g (after of l) ∧ Below w0.heap.size w0 w' := by
 have HB := md_ HB0
 have HR := md_ h
 have GE := md_ hg
 have hu46 := Tryz.underlying46
 have z0 : w.cell? ⟨g, 0, none⟩ = some (.string (bs l)) := (blk_cell h 0).trans rfl
 have f0 := blk_frozen h 0
 clear h HB0 hg
 match l with
 | [] =>
  obtain ⟨s, hs⟩ : ∃ s, bs [] = s := ⟨_, rfl⟩
  have c1 : s.toList = [] := by rw [← hs]; exact bs_list []
  have c2 : s.toList.isEmpty = true := by rw [c1]; rfl
  rw [hs] at z0
  clear hs
  go_enter Tryz.func29, Tryz.ntmps29
  go_wp2
  go_ret2
  exact ⟨rfl, HR.out, HB.out⟩
 | c :: t =>
  have HI := md_ (fun w => Tryz.strings_IndexByte (bs of) (c.toNat : Nat) w)
  obtain ⟨i, hi⟩ : ∃ i : Int, Lib.indexByte (bs of).data.toList ((c.toNat : Nat) : Int).toNat.toUInt8 = i := ⟨_, rfl⟩
  have hi2 : i = Lib.indexByte of c := by
   rw [← hi]
   congr 1
   exact UInt8.ofNat_toNat
  rw [hi] at HI
  clear hi
  obtain ⟨s, hs⟩ : ∃ s, bs (c :: t) = s := ⟨_, rfl⟩
  have c1 : ¬ s.toList = [] := by rw [← hs]; exact bs_ne
  have c2 : s.toList.isEmpty = false := by rw [← hs, bs_list]; rfl
  have c3 : (0 : Int) < s.size := by rw [← hs, bs_size, List.length_cons]; omega
  have c4 : (1 : Int) ≤ s.size := by omega
  have c5 : ∀ h, s[0]'h = c := fun h => by subst hs; rfl
  have c6 : s.extract 1 s.size = bs t := by rw [← hs]; exact bs_tail
  rw [hs] at z0
  have HR2 := md_ (show w.heap[g]? = some (.cells #[.string s] 46 (0, 0)) by rw [← hs]; exact HR.out)
  obtain ⟨so, hso⟩ : ∃ s, bs of = s := ⟨_, rfl⟩
  rw [hso] at HI ⊢
  obtain ⟨cn, hcn⟩ : ∃ s, c.toNat = s := ⟨_, rfl⟩
  rw [hcn] at HI
  obtain ⟨v, hv⟩ : ∃ s, bs t = s := ⟨_, rfl⟩
  rw [hv] at c6
  by_cases k : of.contains c = true
  ·have k1 : ¬ i < 0 := by rw [hi2, index_mark, k]; simp
   have k2 := decide_eq_false k1
   have e1 : lead of (c :: t) = cn := by show (if _ then _ else _) = _; rw [if_pos k]; exact hcn
   have e2 : hasM of (c :: t) = true := k
   have e3 : after of (c :: t) = t := by unfold after; rw [e2]; rfl
   rw [e1, e2, e3]
   clear k hi2 e1 e2 e3 hso hs
   have c7 : ∀ h, (s[0]'h).toNat = cn := fun h => by rw [c5 h]; exact hcn
   go_enter Tryz.func29, Tryz.ntmps29
   go_wp2_with (go_at_call 68; (with_reducible refine (HI.out _).mono ?_); rintro e w' ⟨rfl, rfl⟩)
   go_ret2
   refine ⟨rfl, ?_, below_set HB.out GE.out⟩
   unfold Rd
   rw [hv]
   exact blk_put (cs := #[.string s]) HR2.out 0 _ rfl
  ·have k' : of.contains c = false := by cases h : of.contains c with | true => exact absurd h k | false => rfl
   have k1 : i < 0 := by rw [hi2, index_mark, k']
   have k2 := decide_eq_true k1
   have e1 : lead of (c :: t) = 0 := by show (if _ then _ else _) = _; rw [if_neg k]
   have e2 : hasM of (c :: t) = false := k'
   have e3 : after of (c :: t) = c :: t := by unfold after; rw [e2]; rfl
   rw [e1, e2, e3]
   have c7 : ∀ h, (s[0]'h).toNat = cn := fun h => by rw [c5 h]; exact hcn
   clear k k' hi2 e1 e2 e3 hso hs
   go_enter Tryz.func29, Tryz.ntmps29
   go_wp2_with (go_at_call 68; (with_reducible refine (HI.out _).mono ?_); rintro e w' ⟨rfl, rfl⟩)
   go_ret2
   exact ⟨rfl, HR.out, HB.out⟩
theorem d_sign (w0 w : World) (g : Nat) (l : List UInt8) (HB0 : Below w0.heap.size w0 w) (hg : w0.heap.size ≤ g) (h : Rd w g l) :
  Calls Tryz.prog 27 #[.pointer (some ⟨g, 0, none⟩)] w fun e w' => e = .returned (.tuple #[.bool (minus l), .bool (hasM [43, 45] l)]) ∧ Rd w' g (after [43, 45] l) ∧ Below w0.heap.size w0 w' := by
 have HT := md_ (d_take w0 w g [43, 45] l HB0 hg h)
 have hb : (bs [43, 45]) = ⟨#[43, 45]⟩ := rfl
 rw [hb] at HT
 obtain ⟨a, ha⟩ : ∃ z : Int, ((lead [43, 45] l : Nat) : Int) = z := ⟨_, rfl⟩
 obtain ⟨b, hb⟩ : ∃ z, hasM [43, 45] l = z := ⟨_, rfl⟩
 obtain ⟨n, hn⟩ : ∃ z, minus l = z := ⟨_, rfl⟩
 rw [ha, hb] at HT
 have c1 : (a == 45) = n := by
  rw [← ha, ← hn]
  unfold lead minus
  match l with
  | [] => rfl
  | c :: t =>
   show (((if _ then _ else _ : Nat) : Int) == 45) = (c == 45)
   by_cases k : c = 45
   ·subst k; rfl
   ·have k1 : (c == 45) = false := by simpa using k
    rw [k1]
    have k2 : ¬ c.toNat = 45 := fun e => k (UInt8.toNat_inj.1 e)
    split
    ·rw [beq_eq_false_iff_ne]; omega
    ·rfl
 have c2 : decide (a = 45) = n := by rw [← c1]; exact (Bool.beq_eq_decide_eq _ _).symm
 rw [hn, hb]
 clear h hg HB0 ha hb hn
 go_enter Tryz.func27, Tryz.ntmps27
 go_wp2_with (go_at_call 29; (with_reducible refine HT.out.mono ?_); rintro e w' ⟨rfl, hr, hbw⟩; have hr' := md_ hr; have hb' := md_ hbw; clear hr hbw)
 go_ret2
 exact ⟨rfl, hr'.out, hb'.out⟩
theorem bs_get (l : List UInt8) (i : Nat) (h : i < (bs l).size) (h' : i < l.length) : (bs l)[i]'h = l[i] := by
 show (bs l).data[i]'h = _
 simp [bs]
theorem bs_to (l : List UInt8) (n : Nat) : (bs l).extract 0 n = bs (l.take n) := by
 show (ByteArray.mk l.toArray).extract 0 n = _
 rw [ByteArray.extract_mk]
 rfl
theorem bs_from (l : List UInt8) (n : Nat) : (bs l).extract n (bs l).size = bs (l.drop n) := by
 rw [bs_size]
 show (ByteArray.mk l.toArray).extract n l.length = _
 rw [ByteArray.extract_mk, List.take_of_length_le (by rw [List.length_drop]; omega)]
 rfl
set_option maxRecDepth 100000 in
theorem d_digits (w0 w : World) (g : Nat) (l : List UInt8) (hl : l.length ≤ 1000000) (HB0 : Below w0.heap.size w0 w) (hg : w0.heap.size ≤ g) (h : Rd w g l) :
  Calls Tryz.prog 28 #[.pointer (some ⟨g, 0, none⟩)] w fun e w' => e = .returned (.string (bs (dg l))) ∧ Rd w' g (past l) ∧ Below w0.heap.size w0 w' := by
 have HB := md_ HB0
 have HR := md_ h
 have GE := md_ hg
 have hu46 := Tryz.underlying46
 have z0 : w.cell? ⟨g, 0, none⟩ = some (.string (bs l)) := (blk_cell h 0).trans rfl
 have f0 := blk_frozen h 0
 have hlt := blk_lt h
 obtain ⟨s, hs⟩ : ∃ s, bs l = s := ⟨_, rfl⟩
 have hsz : s.size = l.length := by rw [← hs, bs_size]
 obtain ⟨n, hn⟩ : ∃ n, (dg l).length = n := ⟨_, rfl⟩
 have hnl : n ≤ l.length := by rw [← hn]; exact dg_len l
 have hget : ∀ i h h', (s[i]'h) = l[i]'h' := fun i h h' => by subst hs; exact bs_get l i h h'
 have hto : s.extract 0 n = bs (dg l) := by rw [← hs, bs_to, ← hn, dg_take]
 have hfrom : s.extract n s.size = bs (past l) := by rw [← hs, bs_from, ← hn, past_drop]
 have HA : Aside0 (∀ i (h : i < s.size), i < n → isd (s[i]'h) = true) := ⟨fun i h k => by rw [hget i h (by omega)]; exact dg_at l i (by omega)⟩
 have HE : Aside0 (∀ (h : n < s.size), isd (s[n]'h) = false) := ⟨fun h => by rw [hget n h (by omega)]; exact dg_end l n hn.symm (by omega)⟩
 obtain ⟨u, hu⟩ : ∃ s, bs (dg l) = s := ⟨_, rfl⟩
 obtain ⟨v, hv⟩ : ∃ s, bs (past l) = s := ⟨_, rfl⟩
 unfold Rd
 rw [hu] at hto ⊢
 rw [hv] at hfrom ⊢
 rw [hs] at z0
 have HR2 := md_ (show w.heap[g]? = some (.cells #[.string s] 46 (0, 0)) by rw [← hs]; exact HR.out)
 have HSZ := md_ (show s.size ≤ 1000000 by omega)
 have HNS := md_ (show n ≤ s.size by omega)
 clear hget hs h HB0 hg HR hu hv hn hsz hl hnl
 go_enter Tryz.func28, Tryz.ntmps28
 go_wp2
 go_loopg [3] s.size (fun kq v3 wr => ∃ (i : Nat), v3 = .int .i64 (s.size : Nat) ∧ Aside0 (i + kq = s.size ∧ i ≤ n) ∧ Aside0 (wr.heap[w.heap.size]? = some (.stringIter s i)) ∧ Aside0 (Below w.heap.size w wr))
 case atStart => exact ⟨0, rfl, ⟨by omega, by omega⟩, ⟨World.iter_heap w s 0⟩, ⟨(Below.refl _ _).alloc (Nat.le_refl _) _⟩⟩
 case round =>
  obtain ⟨i, rfl, HQ, HT, HW⟩ := hrel
  by_cases hi : i < s.size
  ·have HBW := md_ (fun p => Lib.below_iterAt HW.out (k := w.heap.size) (Nat.le_refl _) s p)
   by_cases hin : i < n
   ·have hx := HA.out i hi hin
    unfold isd at hx
    rw [Bool.and_eq_true, decide_eq_true_iff, decide_eq_true_iff] at hx
    have hnx : ∀ ty, (Instr.next (.pointer (some ⟨w.heap.size, 0, none⟩)) true ty).run Tryz.prog wr = _ := fun ty => Lib.run_next_any_at wr w.heap.size s i ty HT.out hi
    rw [decode_ascii s i hi (by omega)] at hnx
    obtain ⟨r, hr⟩ : ∃ r : Int, (((s[i]'hi).toNat : Nat) : Int) = r := ⟨_, rfl⟩
    simp only [hr] at hnx
    have c1 := decide_eq_false (show ¬ r < 48 by omega)
    have c2 := decide_eq_false (show ¬ 57 < r by omega)
    have hbw2 := md_ (HBW.out (i + 1))
    have hit2 := md_ (Lib.iterAt_heap wr w.heap.size s i (i + 1) HT.out)
    obtain ⟨W1, hW1⟩ : ∃ W1, wr.iterAt w.heap.size s (i + 1) = W1 := ⟨_, rfl⟩
    simp only [hW1] at hnx hbw2 hit2
    obtain ⟨j, rfl⟩ : ∃ j, gk = j + 1 := ⟨gk - 1, by have := HQ.out; omega⟩
    have HQ2 := md_ (show i + 1 + j = s.size ∧ i + 1 ≤ n by have := HQ.out; omega)
    clear hW1 hr hx HQ
    go_wp2
    go_roundg j
    case measure => omega
    case rel => exact ⟨i + 1, rfl, HQ2, hit2, hbw2⟩
   ·have hin' : i = n := by have := HQ.out.2; omega
    subst hin'
    have hx := HE.out hi
    have hnx : ∀ ty, (Instr.next (.pointer (some ⟨w.heap.size, 0, none⟩)) true ty).run Tryz.prog wr = _ := fun ty => Lib.run_next_any_at wr w.heap.size s i ty HT.out hi
    have hr0 : (Utf8.decode s i).1 < 48 ∨ 57 < (Utf8.decode s i).1 := by
     rcases Nat.lt_or_ge (s[i]'hi).toNat 128 with k | k
     ·rw [decode_ascii s i hi k]
      unfold isd at hx
      rw [Bool.and_eq_false_iff, decide_eq_false_iff_not, decide_eq_false_iff_not] at hx
      show (s[i]'hi).toNat < 48 ∨ 57 < (s[i]'hi).toNat
      omega
     ·have := (decode_high s i hi k).1
      omega
    obtain ⟨r, hr⟩ : ∃ r : Int, (((Utf8.decode s i).1 : Nat) : Int) = r := ⟨_, rfl⟩
    have hr1 : r < 48 ∨ 57 < r := by omega
    have hbw2 := md_ (HBW.out (i + (Utf8.decode s i).2))
    obtain ⟨W1, hW1⟩ : ∃ W1, wr.iterAt w.heap.size s (i + (Utf8.decode s i).2) = W1 := ⟨_, rfl⟩
    simp only [hW1, hr] at hnx hbw2
    have z1 : W1.cell? ⟨g, 0, none⟩ = some (.string s) := pw_cell_below hbw2.out z0
    have HR3 := md_ (blk_below HR2.out hbw2.out)
    have f1 := blk_frozen HR3.out 0
    have HB2 := md_ (below_step HB.out hbw2.out)
    have b1 : (0 : Int) ≤ (i : Int) := by omega
    have b2 : (i : Int) ≤ (s.size : Nat) := by omega
    clear hW1 hr hr0 hx
    rcases Int.lt_or_le r 48 with k | k
    ·have c1 := decide_eq_true k
     clear hr1 k
     go_wp2
     go_ret
     exact ⟨rfl, blk_put (cs := #[.string s]) HR3.out 0 _ rfl, below_set HB2.out GE.out⟩
    ·have c1 := decide_eq_false (show ¬ r < 48 by omega)
     have c2 := decide_eq_true (show 57 < r by omega)
     clear hr1 k
     go_wp2
     go_ret
     exact ⟨rfl, blk_put (cs := #[.string s]) HR3.out 0 _ rfl, below_set HB2.out GE.out⟩
  ·have hin' : n = s.size := by have := HQ.out; have := HNS.out; omega
   have hnx : ∀ ty, (Instr.next (.pointer (some ⟨w.heap.size, 0, none⟩)) true ty).run Tryz.prog wr = _ := fun ty => Lib.run_next_end_at wr w.heap.size s i ty HT.out hi
   have z1 : wr.cell? ⟨g, 0, none⟩ = some (.string s) := pw_cell_below HW.out z0
   have HR3 := md_ (blk_below HR2.out HW.out)
   have f1 := blk_frozen HR3.out 0
   have HB2 := md_ (below_step HB.out HW.out)
   rw [hin'] at hto hfrom
   go_wp2
   go_ret
   have e : v = ByteArray.empty := by rw [← hfrom]; simp
   rw [e]
   exact ⟨rfl, blk_put (cs := #[.string s]) HR3.out 0 _ rfl, below_set HB2.out GE.out⟩
theorem bytes_below (w : World) (e : TypeId) (s : ByteArray) : Below w.heap.size w (Lib.bytesWorld w e s) :=
 ⟨rfl, rfl, rfl, by rw [Lib.bytesWorld_size]; omega, fun k hk => Lib.bytesWorld_at_old w e s k (by omega)⟩
theorem atoi_dec (l : List UInt8) (h : Num.digs l = true) : Lib.atoi (48 :: l) = some ((Num.decL 0 l : Nat) : Int) := by
 have key : ∀ (l : List UInt8) (a : Nat), Num.digs l = true → Lib.decFrom a l = some (Num.decL a l) := by
  intro l
  induction l with
  | nil => exact fun _ _ => rfl
  | cons c t ih =>
   intro a h
   have hc := Num.digs_mem h c List.mem_cons_self
   have ht : Num.digs t = true := by
    unfold Num.digs at *
    rw [List.all_eq_true] at *
    exact fun x hx => h x (List.mem_cons_of_mem _ hx)
   have hv : Lib.digitVal c = some (c.toNat - 48) := by unfold Lib.digitVal; rw [if_pos hc]
   unfold Lib.decFrom
   rw [hv]
   exact ih _ ht
 have k := key (48 :: l) 0 (by unfold Num.digs at *; rw [List.all_cons, h]; rfl)
 rw [Lib.atoi, if_neg (by decide), if_neg (by decide)]
 unfold Lib.decNat
 rw [if_neg (by simp), k]
 rfl
set_option maxRecDepth 100000 in
theorem d_exponent (w : World) (neg : Bool) (l : List UInt8) (h : Num.digs l = true) (hl : l.length ≤ 1000000) :
  Calls Tryz.prog 30 #[.bool neg, .string (bs l)] w fun e w' => e = .returned (.int .i64 (expo neg l)) ∧ Below w.heap.size w w' := by
 have hd : Num.digs (trim0 l) = true := by
  unfold Num.digs at *
  rw [List.all_eq_true] at *
  exact fun x hx => h x ((List.dropWhile_sublist _).mem hx)
 have HT : Aside0 (∀ w, Calls Tryz.prog 69 #[.string (bs l), .string ⟨#[48]⟩] w fun x w' => x = .returned (.string (bs (trim0 l))) ∧ w' = w) := ⟨fun w => Tryz.strings_TrimLeft_one (bs l) 48 (by decide) w⟩
 have hle : (trim0 l).length ≤ l.length := (List.dropWhile_sublist _).length_le
 obtain ⟨s, hs⟩ : ∃ s, bs l = s := ⟨_, rfl⟩
 obtain ⟨m, hm⟩ : ∃ m : List UInt8, (if 5 < (trim0 l).length then [57, 57, 57, 57, 57] else trim0 l) = m := ⟨_, rfl⟩
 have hm5 : m.length ≤ 5 := by rw [← hm]; split; decide; omega
 have hmd : Num.digs m = true := by rw [← hm]; split; decide; exact hd
 have hv : expo neg l = if neg then -((Num.decL 0 m : Nat) : Int) else ((Num.decL 0 m : Nat) : Int) := by
  unfold expo
  rw [← hm]
  by_cases k : 5 < (trim0 l).length
  ·rw [if_pos k, if_pos k]; rfl
  ·rw [if_neg k, if_neg k]
 obtain ⟨x, hx⟩ : ∃ x : Int, ((Num.decL 0 m : Nat) : Int) = x := ⟨_, rfl⟩
 have hxb : 0 ≤ x ∧ x < 100000 := by
  have := Num.decL_lt m (Num.digs_mem hmd)
  have : 10 ^ m.length ≤ 10 ^ 5 := Nat.pow_le_pow_right (by decide) hm5
  omega
 have HA : Aside0 (∀ w, Calls Tryz.prog 70 #[.string (bs (48 :: m))] w fun e w' => e = .returned (.tuple #[.int .i64 x, .nilIface]) ∧ Below w.heap.size w w') := ⟨fun w => by
  refine (Tryz.strconv_Atoi (bs (48 :: m)) x (by rw [bs_size, List.length_cons]; omega) (by rw [← hx]; exact atoi_dec m hmd) w).mono ?_
  rintro e w' ⟨rfl, t, rfl⟩
  exact ⟨rfl, bytes_below w 5 t⟩⟩
 obtain ⟨y, hy⟩ : ∃ s, bs (48 :: m) = s := ⟨_, rfl⟩
 rw [hy] at HA
 rw [hs] at HT ⊢
 obtain ⟨t, ht⟩ : ∃ s, bs (trim0 l) = s := ⟨_, rfl⟩
 rw [ht] at HT
 have hts : t.size = (trim0 l).length := by rw [← ht, bs_size]
 rw [hv, hx]
 have HB := md_ (Below.refl w.heap.size w)
 have w1 : wrap64 (-x) = -x := i64_id (by omega) (by omega)
 have w2 : IntKind.i64.wrap (-x) = -x := (i64_w _).trans w1
 have hcat : ⟨#[48]⟩ ++ bs m = y := by rw [← hy]; apply ByteArray.ext; simp [bs]
 have hsz : ¬ 9223372036854775807 < 1 + (bs m).size := by rw [bs_size]; omega
 by_cases k : 5 < (trim0 l).length
 ·have c1 := decide_eq_true (show (5 : Int) < (t.size : Nat) by omega)
  rw [if_pos k] at hm
  have hmm : bs m = ⟨#[57, 57, 57, 57, 57]⟩ := by rw [← hm]; rfl
  rw [hmm] at hcat hsz
  clear hv hx h hl hd hle hs hm hm5 hmd ht hts hy hmm k hxb
  cases neg <;>
  (go_enter Tryz.func30, Tryz.ntmps30
   go_wp2_with (first | (go_at_call 69; (with_reducible refine (HT.out _).mono ?_); rintro e w' ⟨rfl, rfl⟩) | (go_at_call 70; (with_reducible refine (HA.out _).mono ?_); rintro e w' ⟨rfl, hb⟩; replace HB := bt_ HB hb; clear hb))
   go_ret
   exact ⟨rfl, HB.out⟩)
 ·have c1 := decide_eq_false (show ¬ (5 : Int) < (t.size : Nat) by omega)
  rw [if_neg k] at hm
  have hmm : bs m = t := by rw [← hm]; exact ht
  rw [hmm] at hcat hsz
  clear hv hx h hl hd hle hs hm hm5 hmd ht hts hy hmm k hxb
  cases neg <;>
  (go_enter Tryz.func30, Tryz.ntmps30
   go_wp2_with (first | (go_at_call 69; (with_reducible refine (HT.out _).mono ?_); rintro e w' ⟨rfl, rfl⟩) | (go_at_call 70; (with_reducible refine (HA.out _).mono ?_); rintro e w' ⟨rfl, hb⟩; replace HB := bt_ HB hb; clear hb))
   go_ret
   exact ⟨rfl, HB.out⟩)
end Go.Proofs.YtdoeigngpemcgaaGreatDoor.Dec
namespace Go.Proofs.YtdoeigngpemcgaaGreatDoor.Dec
open Go.RowKit Go.Flt Go.Read Go.Proofs.YtdoeigngpemcgaaGreatDoor.Pure YtdoeigngpemcgaaGreatDoorW.PrintWords YtdoeigngpemcgaaGreatDoorW.PrintLast YtdoeigngpemcgaaGreatDoorW.PrintMore
theorem res_row_tmp {P : Program} {fn : Func} {p u : Tmp} {ty : TypeId} (h : fn.results = #[.cell p ty, .tmp u]) (tmps : Array Value) (w : World) (g : Nat) (t : TypeId) (cs : Array Value) (fr : Nat × Nat) (d : TypeDesc)
  (hp : tmps.getD p undef = .pointer (some ⟨g, 0, none⟩)) (hg : w.heap[g]? = some (.cells cs t fr))
  (hu : P.underlying ty = some d) (hd : (match d with | .struct _ | .array _ _ => true | _ => false) = true) (hi : (P.info? ty).map (·.size) = some cs.size) :
  (results fn tmps).run P w = .ok (.tuple #[.agg cs, tmps.getD u undef]) w := by
 have hp' : tmps[p]?.getD undef = .pointer (some ⟨g, 0, none⟩) := by simpa using hp
 rw [results_cell_tmp h]
 simp [hp', asAddr, run_loadVar_row w g t ty cs fr d hg hu hd hi, Result.andThen]
theorem fmant_lt (a : Nat) : fmant a < 2 ^ 53 := by
 unfold fmant
 split <;> omega
theorem fpow_bound (a : Nat) (h : ffin a = true) : -1074 ≤ fpow a ∧ fpow a ≤ 971 := by
 unfold ffin at h
 rw [decide_eq_true_iff] at h
 unfold fpow fexp
 split <;> omega
theorem s_Split_any (w : World) (a : Nat) (ha : a < 18446744073709551616) : Calls Tryz.prog 36 #[.int .u64 (a : Int)] w fun e w' => ∃ neg v p, e = .returned (.tuple #[.bool neg, v, .int .i64 p, .bool (ffin a)]) ∧ Below w.heap.size w w' := by
 cases h : ffin a with
 | true =>
  refine (s_Split_good w a ha h).mono ?_
  rintro e w' ⟨v, rfl, -, hb⟩
  exact ⟨_, _, _, rfl, hb⟩
 | false =>
  refine (s_Split_bad w a ha h).mono ?_
  rintro e w' ⟨rfl, hb⟩
  exact ⟨_, _, _, rfl, hb⟩
set_option maxRecDepth 100000 in
theorem d_Rep_bad (w : World) (a : Nat) (ha : a < 18446744073709551616) (n : Int) (h : n < 1 ∨ 40 < n ∨ ffin a = false) : Calls Tryz.prog 13 #[.int .u64 (a : Int), .int .i64 n] w fun e w' => e = .returned (.tuple #[.agg #[.string ⟨#[]⟩, .int .i64 0, .bool false], .int .i64 1]) ∧ Below w.heap.size w w' := by
 have HS := md_ (fun w => s_Split_any w a ha)
 obtain ⟨aa, haa⟩ : ∃ z : Int, (a : Int) = z := ⟨_, rfl⟩
 obtain ⟨fin, hfin⟩ : ∃ z, ffin a = z := ⟨_, rfl⟩
 rw [haa, hfin] at HS
 rw [hfin] at h
 rw [haa]
 clear ha haa hfin
 by_cases c1 : n < 1
 ·have d1 := decide_eq_true c1
  clear h c1
  go_enter Tryz.func13, Tryz.ntmps13
  go_upto_region 1 with (fail)
  obtain ⟨g, hg⟩ : ∃ g, w.heap.size = g := ⟨_, rfl⟩
  generalize hW : w.alloc _ = W1
  have BK := md_ (show W1.heap[g]? = some (.cells #[.string ⟨#[]⟩, .int .i64 0, .bool false] 28 (0, 0)) by rw [← hW, ← hg]; exact blk_new _ _)
  have HB := md_ (show Below w.heap.size w W1 by rw [← hW]; exact below_alloc (Below.refl _ _) _)
  have GE := md_ (show w.heap.size ≤ g by omega)
  clear hW
  rw [hg]
  clear hg
  go_wp2_with ((go_at_call 36; (with_reducible refine (HS.out _).mono ?_); rintro e w' ⟨neg, v, p, rfl, hb⟩; replace HB := bt_ HB hb; replace BK := md_ (blk_below BK.out hb); have z0 := (blk_cell BK.out 0).trans (show _ = some (Value.string ⟨#[]⟩) from rfl); have z1 := (blk_cell BK.out 1).trans (show _ = some (Value.int .i64 0) from rfl); have z2 := (blk_cell BK.out 2).trans (show _ = some (Value.bool false) from rfl); have f0 := blk_frozen BK.out 0; have f1 := blk_frozen BK.out 1; have f2 := blk_frozen BK.out 2; clear hb))
  refine bodyPost_ret (res_row_tmp rfl _ _ g 28 #[.string ⟨#[]⟩, .int .i64 0, .bool false] (0, 0) _ rfl (by refine blk_put (cs := #[.string ⟨#[]⟩, .int .i64 0, .bool false]) ?_ 2 _ rfl; refine blk_put (cs := #[.string ⟨#[]⟩, .int .i64 0, .bool false]) ?_ 1 _ rfl; refine blk_put (cs := #[.string ⟨#[]⟩, .int .i64 0, .bool false]) ?_ 0 _ rfl; exact BK.out) Tryz.underlying28 rfl (by kernel_rfl)) rfl ?_
  exact ⟨rfl, below_set (below_set (below_set HB.out GE.out) GE.out) GE.out⟩
 have d1 := decide_eq_false c1
 by_cases c2 : 40 < n
 ·have d2 := decide_eq_true c2
  clear h c1 c2
  go_enter Tryz.func13, Tryz.ntmps13
  go_upto_region 1 with (fail)
  obtain ⟨g, hg⟩ : ∃ g, w.heap.size = g := ⟨_, rfl⟩
  generalize hW : w.alloc _ = W1
  have BK := md_ (show W1.heap[g]? = some (.cells #[.string ⟨#[]⟩, .int .i64 0, .bool false] 28 (0, 0)) by rw [← hW, ← hg]; exact blk_new _ _)
  have HB := md_ (show Below w.heap.size w W1 by rw [← hW]; exact below_alloc (Below.refl _ _) _)
  have GE := md_ (show w.heap.size ≤ g by omega)
  clear hW
  rw [hg]
  clear hg
  go_wp2_with ((go_at_call 36; (with_reducible refine (HS.out _).mono ?_); rintro e w' ⟨neg, v, p, rfl, hb⟩; replace HB := bt_ HB hb; replace BK := md_ (blk_below BK.out hb); have z0 := (blk_cell BK.out 0).trans (show _ = some (Value.string ⟨#[]⟩) from rfl); have z1 := (blk_cell BK.out 1).trans (show _ = some (Value.int .i64 0) from rfl); have z2 := (blk_cell BK.out 2).trans (show _ = some (Value.bool false) from rfl); have f0 := blk_frozen BK.out 0; have f1 := blk_frozen BK.out 1; have f2 := blk_frozen BK.out 2; clear hb))
  refine bodyPost_ret (res_row_tmp rfl _ _ g 28 #[.string ⟨#[]⟩, .int .i64 0, .bool false] (0, 0) _ rfl (by refine blk_put (cs := #[.string ⟨#[]⟩, .int .i64 0, .bool false]) ?_ 2 _ rfl; refine blk_put (cs := #[.string ⟨#[]⟩, .int .i64 0, .bool false]) ?_ 1 _ rfl; refine blk_put (cs := #[.string ⟨#[]⟩, .int .i64 0, .bool false]) ?_ 0 _ rfl; exact BK.out) Tryz.underlying28 rfl (by kernel_rfl)) rfl ?_
  exact ⟨rfl, below_set (below_set (below_set HB.out GE.out) GE.out) GE.out⟩
 ·have d2 := decide_eq_false c2
  have d3 : fin = false := by rcases h with h | h | h; exact absurd h c1; exact absurd h c2; exact h
  subst d3
  clear h c1 c2
  go_enter Tryz.func13, Tryz.ntmps13
  go_upto_region 1 with (fail)
  obtain ⟨g, hg⟩ : ∃ g, w.heap.size = g := ⟨_, rfl⟩
  generalize hW : w.alloc _ = W1
  have BK := md_ (show W1.heap[g]? = some (.cells #[.string ⟨#[]⟩, .int .i64 0, .bool false] 28 (0, 0)) by rw [← hW, ← hg]; exact blk_new _ _)
  have HB := md_ (show Below w.heap.size w W1 by rw [← hW]; exact below_alloc (Below.refl _ _) _)
  have GE := md_ (show w.heap.size ≤ g by omega)
  clear hW
  rw [hg]
  clear hg
  go_wp2_with ((go_at_call 36; (with_reducible refine (HS.out _).mono ?_); rintro e w' ⟨neg, v, p, rfl, hb⟩; replace HB := bt_ HB hb; replace BK := md_ (blk_below BK.out hb); have z0 := (blk_cell BK.out 0).trans (show _ = some (Value.string ⟨#[]⟩) from rfl); have z1 := (blk_cell BK.out 1).trans (show _ = some (Value.int .i64 0) from rfl); have z2 := (blk_cell BK.out 2).trans (show _ = some (Value.bool false) from rfl); have f0 := blk_frozen BK.out 0; have f1 := blk_frozen BK.out 1; have f2 := blk_frozen BK.out 2; clear hb))
  refine bodyPost_ret (res_row_tmp rfl _ _ g 28 #[.string ⟨#[]⟩, .int .i64 0, .bool false] (0, 0) _ rfl (by refine blk_put (cs := #[.string ⟨#[]⟩, .int .i64 0, .bool false]) ?_ 2 _ rfl; refine blk_put (cs := #[.string ⟨#[]⟩, .int .i64 0, .bool false]) ?_ 1 _ rfl; refine blk_put (cs := #[.string ⟨#[]⟩, .int .i64 0, .bool false]) ?_ 0 _ rfl; exact BK.out) Tryz.underlying28 rfl (by kernel_rfl)) rfl ?_
  exact ⟨rfl, below_set (below_set (below_set HB.out GE.out) GE.out) GE.out⟩
theorem rep48 (k : Nat) : Lib.repeatL [48] k = List.replicate k 48 := by
 induction k with
 | zero => rfl
 | succ k ih => rw [Lib.repeatL, ih, List.replicate_succ]; rfl
theorem d_Repeat (w : World) (n : Int) (h0 : 0 ≤ n) (h1 : n ≤ 1000000) : Calls Tryz.prog 37 #[.string ⟨#[48]⟩, .int .i64 n] w fun e w' => e = .returned (.string (bs (List.replicate n.toNat 48))) ∧ Below w.heap.size w w' := by
 have h := Tryz.strings_Repeat ⟨#[48]⟩ n.toNat w (by omega) (by show 1 * _ ≤ _; omega)
 rw [show ((n.toNat : Nat) : Int) = n by omega] at h
 have e : Lib.repeatL (⟨#[48]⟩ : ByteArray).data.toList n.toNat = List.replicate n.toNat 48 := rep48 _
 rw [e] at h
 exact h
set_option maxRecDepth 100000 in
theorem d_Rep_zero (w : World) (a : Nat) (ha : a < 18446744073709551616) (hf : ffin a = true) (hz : fmant a = 0) (n : Int) (h0 : 1 ≤ n) (h1 : n ≤ 40) : Calls Tryz.prog 13 #[.int .u64 (a : Int), .int .i64 n] w fun e w' => e = .returned (.tuple #[.agg #[.string (bs (List.replicate n.toNat 48)), .int .i64 0, .bool (fneg a)], .int .i64 0]) ∧ Below w.heap.size w w' := by
 have HS := md_ (fun w => s_Split_good w a ha hf)
 have HR := md_ (fun w => d_Repeat w n (by omega) (by omega))
 obtain ⟨aa, haa⟩ : ∃ z : Int, (a : Int) = z := ⟨_, rfl⟩
 obtain ⟨neg, hneg⟩ : ∃ z, fneg a = z := ⟨_, rfl⟩
 obtain ⟨t, ht⟩ : ∃ z, bs (List.replicate n.toNat 48) = z := ⟨_, rfl⟩
 rw [haa, hneg, hz] at HS
 rw [ht] at HR
 rw [haa, hneg, ht]
 have d1 := decide_eq_false (show ¬ n < 1 by omega)
 have d2 := decide_eq_false (show ¬ 40 < n by omega)
 have HZ := md_ (show (Num.wordsN 0).length = 0 by rw [Num.wordsN_zero]; rfl)
 clear ha hf hz haa hneg ht h0 h1
 go_enter Tryz.func13, Tryz.ntmps13
 go_upto_region 1 with (fail)
 obtain ⟨g, hg⟩ : ∃ g, w.heap.size = g := ⟨_, rfl⟩
 generalize hW : w.alloc _ = W1
 have BK := md_ (show W1.heap[g]? = some (.cells #[.string ⟨#[]⟩, .int .i64 0, .bool false] 28 (0, 0)) by rw [← hW, ← hg]; exact blk_new _ _)
 have HB := md_ (show Below w.heap.size w W1 by rw [← hW]; exact below_alloc (Below.refl _ _) _)
 have GE := md_ (show w.heap.size ≤ g by omega)
 clear hW
 rw [hg]
 clear hg
 go_wp2_with (first | (go_at_call 36; (with_reducible refine (HS.out _).mono ?_); rintro e w' ⟨v, rfl, hv, hb⟩; obtain ⟨A, c, hva, -, -, -⟩ := hv.open; rw [HZ.out] at hva; subst hva; clear hv; replace HB := bt_ HB hb; replace BK := md_ (blk_below BK.out hb); have z0 := (blk_cell BK.out 0).trans (show _ = some (Value.string ⟨#[]⟩) from rfl); have z1 := (blk_cell BK.out 1).trans (show _ = some (Value.int .i64 0) from rfl); have z2 := (blk_cell BK.out 2).trans (show _ = some (Value.bool false) from rfl); have f0 := blk_frozen BK.out 0; have f1 := blk_frozen BK.out 1; have f2 := blk_frozen BK.out 2; clear hb) | (go_at_call 37; (with_reducible refine (HR.out _).mono ?_); rintro e w'' ⟨rfl, hb⟩; clear z0 z1 z2 f0 f1 f2; replace HB := bt_ HB hb; replace BK := md_ (blk_below BK.out hb); have z0 := (blk_cell BK.out 0).trans (show _ = some (Value.string ⟨#[]⟩) from rfl); have z1 := (blk_cell BK.out 1).trans (show _ = some (Value.int .i64 0) from rfl); have z2 := (blk_cell BK.out 2).trans (show _ = some (Value.bool false) from rfl); have f0 := blk_frozen BK.out 0; have f1 := blk_frozen BK.out 1; have f2 := blk_frozen BK.out 2; clear hb))
 refine bodyPost_ret (res_row_tmp rfl _ _ g 28 #[.string t, .int .i64 0, .bool neg] (0, 0) _ rfl (by refine blk_put (cs := #[.string t, .int .i64 0, .bool false]) ?_ 2 _ rfl; refine blk_put (cs := #[.string t, .int .i64 0, .bool false]) ?_ 1 _ rfl; refine blk_put (cs := #[.string ⟨#[]⟩, .int .i64 0, .bool false]) ?_ 0 _ rfl; exact BK.out) Tryz.underlying28 rfl (by kernel_rfl)) rfl ?_
 exact ⟨rfl, below_set (below_set (below_set HB.out GE.out) GE.out) GE.out⟩
theorem tdiv_bound (s : Int) (h : -32400000 ≤ s) (h2 : s ≤ 32400000) : -324 ≤ s.tdiv 100000 ∧ s.tdiv 100000 ≤ 324 := by
 rcases Int.le_total 0 s with c | c
 ·rw [Int.tdiv_eq_ediv_of_nonneg c]
  omega
 ·obtain ⟨z, hz⟩ : ∃ z, s = -z := ⟨-s, by omega⟩
  subst hz
  rw [Int.neg_tdiv, Int.tdiv_eq_ediv_of_nonneg (by omega)]
  omega
set_option maxRecDepth 100000 in
theorem d_Rep_main (w : World) (a : Nat) (ha : a < 18446744073709551616) (hf : ffin a = true) (hz : 0 < fmant a) (n : Int) (h0 : 1 ≤ n) (h1 : n ≤ 40) (D : Int) (hD : Dex (fmant a) (fpow a) D) : Calls Tryz.prog 13 #[.int .u64 (a : Int), .int .i64 n] w fun e w' => e = .returned (.tuple #[.agg #[.string (bs (repT (fmant a) (fpow a) n D)), .int .i64 (repX (fmant a) (fpow a) n D), .bool (fneg a)], .int .i64 0]) ∧ Below w.heap.size w w' := by
 have HS := md_ (fun w => s_Split_good w a ha hf)
 have hM := fmant_lt a
 obtain ⟨he1, he2⟩ := fpow_bound a hf
 obtain ⟨aa, haa⟩ : ∃ z : Int, (a : Int) = z := ⟨_, rfl⟩
 obtain ⟨neg, hneg⟩ : ∃ z, fneg a = z := ⟨_, rfl⟩
 rw [haa, hneg] at HS
 rw [haa, hneg]
 obtain ⟨M, hMM⟩ : ∃ z, fmant a = z := ⟨_, rfl⟩
 obtain ⟨e, hee⟩ : ∃ z, fpow a = z := ⟨_, rfl⟩
 rw [hMM, hee] at HS hD ⊢
 rw [hMM] at hM hz
 rw [hee] at he1 he2
 obtain ⟨hD1, hD2⟩ := hD.bound hz hM he1 he2
 have fM : Fit M := fit_lt hM (by omega)
 have HBits := md_ (fun (w : World) (v : Value) (h : Nm w v M) => n_Bits h fM)
 have hb53 : Num.bitsN M ≤ 53 := bits_lt hM
 obtain ⟨b, hbb⟩ : ∃ z : Int, ((Num.bitsN M : Nat) : Int) = z := ⟨_, rfl⟩
 rw [hbb] at HBits
 have hb0 : 0 ≤ b ∧ b ≤ 53 := by omega
 obtain ⟨s1, hs1⟩ : ∃ z, b + e = z := ⟨_, rfl⟩
 obtain ⟨s2, hs2⟩ : ∃ z, s1 * 30103 = z := ⟨_, rfl⟩
 obtain ⟨s3, hs3⟩ : ∃ z, s2.tdiv 100000 = z := ⟨_, rfl⟩
 have hs3b := tdiv_bound s2 (by omega) (by omega)
 rw [hs3] at hs3b
 obtain ⟨x0, hx0⟩ : ∃ z, s3 + 1 = z := ⟨_, rfl⟩
 have v1 : wrap64 (b + e) = s1 := by rw [hs1, i64_id (by omega) (by omega)]
 have v2 : IntKind.i64.wrap (b + e) = s1 := (i64_w _).trans v1
 have v3 : wrap64 (s1 * 30103) = s2 := by rw [hs2, i64_id (by omega) (by omega)]
 have v4 : IntKind.i64.wrap (s1 * 30103) = s2 := (i64_w _).trans v3
 have v5 : wrap64 s3 = s3 := i64_id (by omega) (by omega)
 have v6 : IntKind.i64.wrap s3 = s3 := (i64_w _).trans v5
 have v7 : wrap64 (s3 + 1) = x0 := by rw [hx0, i64_id (by omega) (by omega)]
 have v8 : IntKind.i64.wrap (s3 + 1) = x0 := (i64_w _).trans v7
 have HX0 := md_ (show -400 ≤ x0 ∧ x0 ≤ 400 by omega)
 have HDB := md_ (show -335 ≤ D ∧ D ≤ 342 by omega)
 have HDD := md_ hD
 have HRch := md_ (fun (w : World) (v : Value) (h : Nm w v M) (x : Int) (k1 : -400 ≤ x) (k2 : x ≤ 400) => d_reaches w h hM e x he1 he2 k1 k2)
 have HNear := md_ (fun (w : World) (v : Value) (h : Nm w v M) => d_near w h hM e n D he1 he2 (by omega) (by omega) (by omega) (by omega))
 obtain ⟨L, hL⟩ : ∃ z, (Num.wordsN M).length = z := ⟨_, rfl⟩
 have hL0 : 0 < L := by
  rw [← hL]
  rcases Nat.eq_zero_or_pos (Num.wordsN M).length with z | z
  ·exfalso
   have : M = 0 := by rw [← Num.wordsN_val M, List.eq_nil_of_length_eq_zero z]; rfl
   omega
  ·exact z
 have HL := md_ hL
 have g1 : ((L : Int) == 0) = false := by rw [beq_eq_false_iff_ne]; omega
 have g2 : ¬ (L : Int) = 0 := by omega
 have g3 : ¬ L = 0 := by omega
 have d1 := decide_eq_false (show ¬ n < 1 by omega)
 have d2 := decide_eq_false (show ¬ 40 < n by omega)
 have HN := md_ (show 1 ≤ n ∧ n ≤ 40 by omega)
 obtain ⟨T, hT⟩ : ∃ z, Num.textN (nearN M e (D - n)) = z := ⟨_, rfl⟩
 have hTT : (⟨(Num.textN (nearN M e (D - n))).toArray⟩ : ByteArray) = bs T := by rw [hT]; rfl
 rw [hTT] at HNear
 unfold repT repX
 rw [hT]
 obtain ⟨t, ht⟩ : ∃ z, bs T = z := ⟨_, rfl⟩
 rw [ht] at HNear
 have htl : T.length = t.size := by rw [← ht, bs_size]
 have htk : bs (T.take n.toNat) = if n < T.length then t.extract 0 n.toNat else t := by
  split
  ·rw [← ht, bs_to]
  ·rw [← ht, List.take_of_length_le (by omega)]
 rw [htk, htl]
 obtain ⟨u, hu⟩ : ∃ z : ByteArray, (if n < (t.size : Nat) then t.extract 0 n.toNat else t) = z := ⟨_, rfl⟩
 obtain ⟨x5, hx5⟩ : ∃ z : Int, (if n < (t.size : Nat) then D + 1 else D) = z := ⟨_, rfl⟩
 rw [hu, hx5]
 have HU := md_ hu
 have HXX := md_ hx5
 clear hu hx5 htk htl ht hT hTT hL hL0 hb0 hb53 fM hM hz hD he1 he2 hs3b hD1 hD2 h0 h1 ha hf haa hneg hMM hee hbb hs1 hs2 hx0
 go_enter Tryz.func13, Tryz.ntmps13
 go_upto_region 1 with (fail)
 obtain ⟨g, hg⟩ : ∃ g, w.heap.size = g := ⟨_, rfl⟩
 generalize hW : w.alloc _ = W1
 have BK := md_ (show W1.heap[g]? = some (.cells #[.string ⟨#[]⟩, .int .i64 0, .bool false] 28 (0, 0)) by rw [← hW, ← hg]; exact blk_new _ _)
 have HB := md_ (show Below w.heap.size w W1 by rw [← hW]; exact below_alloc (Below.refl _ _) _)
 have GE := md_ (show w.heap.size ≤ g by omega)
 clear hW
 rw [hg]
 clear hg
 go_wp2_with (first | (go_at_call 36; (with_reducible refine (HS.out _).mono ?_); rintro e w' ⟨v, rfl, hv, hb⟩; obtain ⟨A, c, hva, -, -, -⟩ := hv.open; rw [HL.out] at hva; subst hva; have HV := md_ hv; clear hv; replace HB := bt_ HB hb; replace BK := md_ (blk_below BK.out hb); clear hb) | (go_at_call 38; (with_reducible refine (HBits.out _ _ HV.out).mono ?_); rintro e w'' ⟨rfl, hb⟩; replace HV := md_ (HV.out.below hb); replace HB := bt_ HB hb; replace BK := md_ (blk_below BK.out hb); clear hb))
 clear v1 v2 v3 v4 v5 v6 v7 v8 hs3 HS HBits
 go_loopg [10] (D - x0).toNat (fun kq v10 wr => ∃ x : Int, v10 = .int .i64 x ∧ Aside0 (-400 ≤ x ∧ x ≤ 400 ∧ -400 ≤ x ∧ (D - x).toNat = kq) ∧ Aside0 (Nm wr (.slice A L c) M) ∧ Aside0 (Below w.heap.size w wr) ∧ Aside0 (wr.heap[g]? = some (.cells #[.string ⟨#[]⟩, .int .i64 0, .bool false] 28 (0, 0))))
 case atStart => exact ⟨x0, rfl, ⟨by have := HX0.out; omega⟩, HV, HB, BK⟩
 case round =>
  clear HV HB BK
  obtain ⟨x, rfl, HQ, HV, HB, BK⟩ := hrel
  have C1 := md_ (fun wq (h : Nm wq (.slice A L c) M) => HRch.out wq _ h x (by have := HQ.out; omega) (by have := HQ.out; omega))
  cases hx : rch M e x with
  | true =>
   have hlt : x < D := HDD.out.lt hx
   obtain ⟨j, rfl⟩ : ∃ j, gk = j + 1 := ⟨gk - 1, by have := HQ.out; omega⟩
   have HQ2 := md_ (show -400 ≤ x + 1 ∧ x + 1 ≤ 400 ∧ -400 ≤ x + 1 ∧ (D - (x + 1)).toNat = j by have := HQ.out; have := HDB.out; omega)
   have y1 : wrap64 (x + 1) = x + 1 := by have := HQ2.out; rw [i64_id (by omega) (by omega)]
   have y2 : IntKind.i64.wrap (x + 1) = x + 1 := (i64_w _).trans y1
   rw [hx] at C1
   clear hx hlt
   go_wp2_with (go_at_call 39; (with_reducible refine (C1.out _ HV.out).mono ?_); rintro q w5 ⟨rfl, hb⟩; replace HV := md_ (HV.out.below hb); replace HB := bt_ HB hb; replace BK := md_ (blk_below BK.out hb); clear hb)
   go_roundg j
   case measure => omega
   case rel => exact ⟨x + 1, by first | rfl | (rw [y1]) | (rw [y2]), HQ2, HV, HB, BK⟩
  | false =>
   have hge : D ≤ x := HDD.out.ge hx
   have HG := md_ (show -400 ≤ x ∧ x ≤ 400 ∧ D ≤ x by have := HQ.out; omega)
   rw [hx] at C1
   clear hx hge
   go_wp2_with (go_at_call 39; (with_reducible refine (C1.out _ HV.out).mono ?_); rintro q w5 ⟨rfl, hb⟩; replace HV := md_ (HV.out.below hb); replace HB := bt_ HB hb; replace BK := md_ (blk_below BK.out hb); clear hb)
   go_loopg [10] (x - D).toNat (fun kq v10 wr => ∃ x : Int, v10 = .int .i64 x ∧ Aside0 (-400 ≤ x ∧ x ≤ 400 ∧ D ≤ x ∧ (x - D).toNat = kq) ∧ Aside0 (Nm wr (.slice A L c) M) ∧ Aside0 (Below w.heap.size w wr) ∧ Aside0 (wr.heap[g]? = some (.cells #[.string ⟨#[]⟩, .int .i64 0, .bool false] 28 (0, 0))))
   case atStart => exact ⟨x, rfl, ⟨by have := HG.out; omega⟩, HV, HB, BK⟩
   case round =>
    clear HV HB BK HQ HG C1
    obtain ⟨x2, rfl, HQ, HV, HB, BK⟩ := hrel
    have C2 := md_ (fun wq (h : Nm wq (.slice A L c) M) => HRch.out wq _ h (x2 - 1) (by have := HQ.out; have := HDB.out; omega) (by have := HQ.out; omega))
    obtain ⟨x3, hx3⟩ : ∃ z, x2 - 1 = z := ⟨_, rfl⟩
    have y1 : wrap64 (x2 - 1) = x3 := by have := HQ.out; rw [i64_id (by omega) (by omega)]; exact hx3
    have y2 : IntKind.i64.wrap (x2 - 1) = x3 := (i64_w _).trans y1
    rw [hx3] at C2
    cases hx : rch M e x3 with
    | false =>
     have hge : D ≤ x3 := HDD.out.ge hx
     obtain ⟨j, rfl⟩ : ∃ j, gk = j + 1 := ⟨gk - 1, by have := HQ.out; omega⟩
     have HQ2 := md_ (show -400 ≤ x3 ∧ x3 ≤ 400 ∧ D ≤ x3 ∧ (x3 - D).toNat = j by have := HQ.out; have := HDB.out; omega)
     rw [hx] at C2
     have hx4 := md_ hx3
     clear hx hge hx3
     go_wp2_with (go_at_call 39; (with_reducible refine (C2.out _ HV.out).mono ?_); rintro q w5 ⟨rfl, hb⟩; replace HV := md_ (HV.out.below hb); replace HB := bt_ HB hb; replace BK := md_ (blk_below BK.out hb); clear hb)
     go_roundg j
     case measure => omega
     case rel => exact ⟨x3, by first | rfl | (rw [y1]) | (rw [y2]), HQ2, HV, HB, BK⟩
    | true =>
     have hlt : x3 < D := HDD.out.lt hx
     have hx2 : x2 = D := by have := HQ.out; omega
     rw [hx] at C2
     subst hx2
     have hx4 := md_ hx3
     clear hx hlt hx3
     by_cases hn : n < (t.size : Nat)
     ·have e1 := decide_eq_true hn
      have e2 : (0 : Int) ≤ n := by have := HN.out; omega
      have e3 : n ≤ (t.size : Nat) := by omega
      have hu := HU.out
      have hx5 := HXX.out
      rw [if_pos hn] at hu hx5
      have z1 : wrap64 (x2 + 1) = x5 := by have := HQ.out; rw [i64_id (by omega) (by omega)]; exact hx5
      have z2 : IntKind.i64.wrap (x2 + 1) = x5 := (i64_w _).trans z1
      clear hn hx5
      go_wp2_with (first | (go_at_call 39; (with_reducible refine (C2.out _ HV.out).mono ?_); rintro q w5 ⟨rfl, hb⟩; replace HV := md_ (HV.out.below hb); replace HB := bt_ HB hb; replace BK := md_ (blk_below BK.out hb); clear hb) | (go_at_call 40; (with_reducible refine (HNear.out _ _ HV.out).mono ?_); rintro q w6 ⟨rfl, hb⟩; replace HB := bt_ HB hb; replace BK := md_ (blk_below BK.out hb); have z0 := (blk_cell BK.out 0).trans (show _ = some (Value.string ⟨#[]⟩) from rfl); have z1 := (blk_cell BK.out 1).trans (show _ = some (Value.int .i64 0) from rfl); have z2 := (blk_cell BK.out 2).trans (show _ = some (Value.bool false) from rfl); have f0 := blk_frozen BK.out 0; have f1 := blk_frozen BK.out 1; have f2 := blk_frozen BK.out 2; clear hb))
      refine bodyPost_ret (res_row_tmp rfl _ _ g 28 #[.string u, .int .i64 x5, .bool neg] (0, 0) _ rfl (by refine blk_put (cs := #[.string u, .int .i64 x5, .bool false]) ?_ 2 _ rfl; refine blk_put (cs := #[.string u, .int .i64 0, .bool false]) ?_ 1 _ rfl; refine blk_put (cs := #[.string ⟨#[]⟩, .int .i64 0, .bool false]) ?_ 0 _ rfl; exact BK.out) Tryz.underlying28 rfl (by kernel_rfl)) rfl ?_
      exact ⟨rfl, below_set (below_set (below_set HB.out GE.out) GE.out) GE.out⟩
     ·have e1 := decide_eq_false hn
      have hu := HU.out
      have hx5 := HXX.out
      rw [if_neg hn] at hu hx5
      subst hu hx5
      clear hn
      go_wp2_with (first | (go_at_call 39; (with_reducible refine (C2.out _ HV.out).mono ?_); rintro q w5 ⟨rfl, hb⟩; replace HV := md_ (HV.out.below hb); replace HB := bt_ HB hb; replace BK := md_ (blk_below BK.out hb); clear hb) | (go_at_call 40; (with_reducible refine (HNear.out _ _ HV.out).mono ?_); rintro q w6 ⟨rfl, hb⟩; replace HB := bt_ HB hb; replace BK := md_ (blk_below BK.out hb); have z0 := (blk_cell BK.out 0).trans (show _ = some (Value.string ⟨#[]⟩) from rfl); have z1 := (blk_cell BK.out 1).trans (show _ = some (Value.int .i64 0) from rfl); have z2 := (blk_cell BK.out 2).trans (show _ = some (Value.bool false) from rfl); have f0 := blk_frozen BK.out 0; have f1 := blk_frozen BK.out 1; have f2 := blk_frozen BK.out 2; clear hb))
      refine bodyPost_ret (res_row_tmp rfl _ _ g 28 #[.string t, .int .i64 x2, .bool neg] (0, 0) _ rfl (by refine blk_put (cs := #[.string t, .int .i64 x2, .bool false]) ?_ 2 _ rfl; refine blk_put (cs := #[.string t, .int .i64 0, .bool false]) ?_ 1 _ rfl; refine blk_put (cs := #[.string ⟨#[]⟩, .int .i64 0, .bool false]) ?_ 0 _ rfl; exact BK.out) Tryz.underlying28 rfl (by kernel_rfl)) rfl ?_
      exact ⟨rfl, below_set (below_set (below_set HB.out GE.out) GE.out) GE.out⟩
end Go.Proofs.YtdoeigngpemcgaaGreatDoor.Dec
namespace Go.Flt
open Go.Proofs.YtdoeigngpemcgaaGreatDoor Go.Proofs.YtdoeigngpemcgaaGreatDoor.Dec
open Classical in
noncomputable def dex (m : Nat) (e : Int) : Int := if h : ∃ D, Dex m e D then Classical.choose h else 0
theorem dex_is {m : Nat} {e : Int} (hm : 0 < m) (hm2 : m < 2 ^ 53) (he : -1074 ≤ e) (he2 : e ≤ 971) : Dex m e (dex m e) := by
 obtain ⟨D, hD, _⟩ := Dex.some hm hm2 he he2
 have h : ∃ D, Dex m e D := ⟨D, hD⟩
 unfold dex
 rw [dif_pos h]
 exact Classical.choose_spec h
theorem dex_eq {m : Nat} {e D : Int} (h : Dex m e D) : dex m e = D := by
 have k : ∃ D, Dex m e D := ⟨D, h⟩
 have h2 : Dex m e (dex m e) := by
  unfold dex
  rw [dif_pos k]
  exact Classical.choose_spec k
 have a := h.lt h2.1
 have b := h2.lt h.1
 omega
noncomputable def repText (a : Nat) (n : Int) : List UInt8 := if fmant a = 0 then List.replicate n.toNat 48 else repT (fmant a) (fpow a) n (dex (fmant a) (fpow a))
noncomputable def repExp (a : Nat) (n : Int) : Int := if fmant a = 0 then 0 else repX (fmant a) (fpow a) n (dex (fmant a) (fpow a))
end Go.Flt
namespace Go.Proofs.YtdoeigngpemcgaaGreatDoor.Dec
open Go.RowKit Go.Flt Go.Read Go.Proofs.YtdoeigngpemcgaaGreatDoor.Pure YtdoeigngpemcgaaGreatDoorW.PrintWords YtdoeigngpemcgaaGreatDoorW.PrintLast YtdoeigngpemcgaaGreatDoorW.PrintMore
theorem rep_dex {a : Nat} (hf : ffin a = true) (hz : fmant a ≠ 0) : Dex (fmant a) (fpow a) (dex (fmant a) (fpow a)) :=
 dex_is (Nat.pos_of_ne_zero hz) (fmant_lt a) (fpow_bound a hf).1 (fpow_bound a hf).2
theorem d_Rep (w : World) (a : Nat) (ha : a < 18446744073709551616) (hf : ffin a = true) (n : Int) (h0 : 1 ≤ n) (h1 : n ≤ 40) : Calls Tryz.prog 13 #[.int .u64 (a : Int), .int .i64 n] w fun e w' => e = .returned (.tuple #[.agg #[.string (bs (repText a n)), .int .i64 (repExp a n), .bool (fneg a)], .int .i64 0]) ∧ Below w.heap.size w w' := by
 unfold repText repExp
 by_cases hz : fmant a = 0
 ·rw [if_pos hz, if_pos hz]
  exact d_Rep_zero w a ha hf hz n h0 h1
 ·rw [if_neg hz, if_neg hz]
  exact d_Rep_main w a ha hf (Nat.pos_of_ne_zero hz) n h0 h1 _ (rep_dex hf hz)
theorem textN_ne (v : Nat) : Num.textN v ≠ [] := Pure.textN_ne v
theorem repText_ne {a : Nat} {n : Int} (h0 : 1 ≤ n) : repText a n ≠ [] := by
 unfold repText
 split
 ·intro h
  have := congrArg List.length h
  rw [List.length_replicate, List.length_nil] at this
  omega
 ·unfold repT
  intro h
  have := congrArg List.length h
  rw [List.length_take, List.length_nil] at this
  have h2 := textN_ne (nearN (fmant a) (fpow a) (dex (fmant a) (fpow a) - n))
  have h3 := List.length_pos_iff.2 h2
  omega
theorem repExp_bound {a : Nat} (hf : ffin a = true) (n : Int) : -335 ≤ repExp a n ∧ repExp a n ≤ 343 := by
 unfold repExp
 split
 ·omega
 ·have hz : fmant a ≠ 0 := by assumption
  have := (rep_dex hf hz).bound (Nat.pos_of_ne_zero hz) (fmant_lt a) (fpow_bound a hf).1 (fpow_bound a hf).2
  unfold repX
  split <;> omega
end Go.Proofs.YtdoeigngpemcgaaGreatDoor.Dec
namespace Go.Proofs.YtdoeigngpemcgaaGreatDoor.Dec
open Go.RowKit Go.Flt Go.Read PDec Go.Proofs.YtdoeigngpemcgaaGreatDoor.Pure YtdoeigngpemcgaaGreatDoorW.PrintWords YtdoeigngpemcgaaGreatDoorW.PrintLast YtdoeigngpemcgaaGreatDoorW.PrintMore
attribute [local go_sem] max2_int min2_int max_two min_two max_three min_three max_four min_four
theorem join_nil (l : List (List UInt8)) : Lib.join l [] = l.flatten := by
 unfold Lib.join
 induction l with
 | nil => rfl
 | cons a t ih =>
  cases t with
  | nil => simp [List.intercalate]
  | cons b r =>
   rw [List.flatten_cons, ← ih]
   simp [List.intercalate, List.intersperse]
theorem d_zeros (w : World) (n : Int) (h1 : n ≤ 1000000) : Calls Tryz.prog 53 #[.int .i64 n] w fun e w' => e = .returned (.string (bs (List.replicate n.toNat 48))) ∧ Below w.heap.size w w' := by
 obtain ⟨c, hc⟩ : ∃ c : Int, max n 0 = c := ⟨_, rfl⟩
 have hcb : (if n < 0 then 0 else n) = c := by rw [← hc]; split <;> omega
 have HR := md_ (fun w => d_Repeat w c (by omega) (by omega))
 rw [show c.toNat = n.toNat by omega] at HR
 obtain ⟨t, ht⟩ : ∃ z, bs (List.replicate n.toNat 48) = z := ⟨_, rfl⟩
 rw [ht] at HR ⊢
 clear ht h1
 have HB := md_ (Below.refl w.heap.size w)
 go_enter Tryz.func53, Tryz.ntmps53
 go_wp2_with (go_at_call 37; (with_reducible refine (HR.out _).mono ?_); rintro e w' ⟨rfl, hb⟩; replace HB := bt_ HB hb; clear hb)
 go_ret
 exact ⟨rfl, HB.out⟩
theorem d_join (w : World) (k c : Nat) (L : List (List UInt8)) (hc : L.length ≤ c) (hk : k < w.heap.size) (hcells : ∀ j l, L[j]? = some l → w.cell? ⟨k, j, none⟩ = some (.string (bs l))) (hL : L.length ≤ 1000) (hF : L.flatten.length ≤ 1000000) :
  Calls Tryz.prog 50 #[.slice (some ⟨k, 0, none⟩) L.length c] w fun e w' => e = .returned (.string (bs L.flatten)) ∧ Below w.heap.size w w' := by
 have hm : (L.map bs).map (fun x => x.data.toList) = L := by
  rw [List.map_map]
  have : ((fun x : ByteArray => x.data.toList) ∘ bs) = id := by
   funext l
   rfl
  rw [this, List.map_id]
 have HJ : Aside0 (Calls Tryz.prog 107 #[.slice (some ⟨k, 0, none⟩) L.length c, .string ⟨#[]⟩] w fun e w' => e = .returned (.string (bs L.flatten)) ∧ Below w.heap.size w w') := ⟨by
  have h := Tryz.strings_Join k 0 c (L.map bs) ⟨#[]⟩ w (by
   intro j x hj
   rw [List.getElem?_map] at hj
   obtain ⟨l, hl, rfl⟩ := Option.map_eq_some_iff.1 hj
   rw [Nat.zero_add]
   exact hcells j l hl) hk (by rw [List.length_map]; omega) (by rw [List.length_map]; exact hc) (by rw [hm]; show (Lib.join L []).length ≤ _; rw [join_nil]; omega)
  rw [hm, List.length_map] at h
  have e : (⟨#[]⟩ : ByteArray).data.toList = [] := rfl
  rw [e, join_nil] at h
  exact h⟩
 obtain ⟨t, ht⟩ : ∃ z, bs L.flatten = z := ⟨_, rfl⟩
 obtain ⟨n, hn⟩ : ∃ z, L.length = z := ⟨_, rfl⟩
 rw [ht, hn] at HJ
 rw [ht, hn]
 clear ht hcells hL hF hm hc hn
 go_enter Tryz.func50, Tryz.ntmps50
 go_wp2_with (go_at_call 107; (with_reducible refine HJ.out.mono ?_); rintro e w' ⟨rfl, hb⟩; have n0_ := md_ hb; clear hb; have HB := n0_; clear n0_)
 go_ret
 exact ⟨rfl, HB.out⟩
theorem d_join3 (W W' : World) (x y z : List UInt8) (h : Below (W.alloc (.cells #[.string (bs x), .string (bs y), .string (bs z)] 9)).heap.size (W.alloc (.cells #[.string (bs x), .string (bs y), .string (bs z)] 9)) W') (hl : x.length + y.length + z.length ≤ 1000000) :
  Calls Tryz.prog 50 #[.slice (some ⟨W.heap.size, 0, none⟩) 3 3] W' fun e w' => e = .returned (.string (bs [x, y, z].flatten)) ∧ Below W'.heap.size W' w' := by
 have hB := blk_below (blk_new W (.cells #[.string (bs x), .string (bs y), .string (bs z)] 9)) h
 refine d_join W' W.heap.size 3 [x, y, z] (by simp) (blk_lt hB) ?_ (by simp) (by simp; omega)
 intro j l hj
 match j, hj with
 | 0, hj => cases hj; exact (blk_cell hB 0).trans rfl
 | 1, hj => cases hj; exact (blk_cell hB 1).trans rfl
 | 2, hj => cases hj; exact (blk_cell hB 2).trans rfl
 | j + 3, hj => cases hj
theorem d_join5 (W W' : World) (x y z u v : List UInt8) (h : Below (W.alloc (.cells #[.string (bs x), .string (bs y), .string (bs z), .string (bs u), .string (bs v)] 9)).heap.size (W.alloc (.cells #[.string (bs x), .string (bs y), .string (bs z), .string (bs u), .string (bs v)] 9)) W') (hl : x.length + y.length + z.length + u.length + v.length ≤ 1000000) :
  Calls Tryz.prog 50 #[.slice (some ⟨W.heap.size, 0, none⟩) 5 5] W' fun e w' => e = .returned (.string (bs [x, y, z, u, v].flatten)) ∧ Below W'.heap.size W' w' := by
 have hB := blk_below (blk_new W (.cells #[.string (bs x), .string (bs y), .string (bs z), .string (bs u), .string (bs v)] 9)) h
 refine d_join W' W.heap.size 5 [x, y, z, u, v] (by simp) (blk_lt hB) ?_ (by simp) (by simp; omega)
 intro j l hj
 match j, hj with
 | 0, hj => cases hj; exact (blk_cell hB 0).trans rfl
 | 1, hj => cases hj; exact (blk_cell hB 1).trans rfl
 | 2, hj => cases hj; exact (blk_cell hB 2).trans rfl
 | 3, hj => cases hj; exact (blk_cell hB 3).trans rfl
 | 4, hj => cases hj; exact (blk_cell hB 4).trans rfl
 | j + 5, hj => cases hj
def fixedV (d : List UInt8) (e n : Int) : List UInt8 :=
 if e < 1 then [[48, 46], List.replicate (-e).toNat 48, d].flatten else if n ≤ e then [d, List.replicate (e - n).toNat 48, [46]].flatten else [d.take e.toNat, [46], d.drop e.toNat].flatten
set_option maxRecDepth 100000 in
theorem d_fixed (w : World) (d : List UInt8) (e n : Int) (z : Bool) (hd : d.length ≤ 1000) (he : -1000 ≤ e) (he2 : e ≤ 1000) (hn : 0 ≤ n) (hn2 : n ≤ d.length) :
  Calls Tryz.prog 52 #[.string (bs d), .int .i64 e, .int .i64 n, .bool z] w fun x w' => x = .returned (.string (bs (fixedV d e n))) ∧ Below w.heap.size w w' := by
 unfold fixedV
 have HB := md_ (Below.refl w.heap.size w)
 have hb1 : bs [48, 46] = ⟨#[48, 46]⟩ := rfl
 have hb2 : bs [46] = ⟨#[46]⟩ := rfl
 by_cases h1 : e < 1
 ·have c1 := decide_eq_true h1
  have HZ := md_ (fun w => d_zeros w (-e) (by omega))
  have w1 : wrap64 (-e) = -e := i64_id (by omega) (by omega)
  have w2 : IntKind.i64.wrap (-e) = -e := (i64_w _).trans w1
  have HJ := md_ (fun (W W' : World) h => d_join3 W W' [48, 46] (List.replicate (-e).toNat 48) d h (by rw [List.length_replicate]; simp; omega))
  obtain ⟨ne, hne⟩ : ∃ z, -e = z := ⟨_, rfl⟩
  rw [if_pos h1]
  rw [hne] at HZ w1 w2 HJ ⊢
  have w3 : wrap64 (-e) = ne := by rw [hne]; exact w1
  have w4 : IntKind.i64.wrap (-e) = ne := (i64_w _).trans w3
  obtain ⟨s, hs⟩ : ∃ s, bs d = s := ⟨_, rfl⟩
  obtain ⟨r, hr⟩ : ∃ s, bs [[48, 46], List.replicate ne.toNat 48, d].flatten = s := ⟨_, rfl⟩
  obtain ⟨t, ht⟩ : ∃ s, bs (List.replicate ne.toNat 48) = s := ⟨_, rfl⟩
  rw [ht] at HZ
  rw [hb1, hs, ht, hr] at HJ
  rw [hs, hr]
  clear h1 hb1 hb2 hs hr ht hne hd he he2 hn hn2
  go_enter Tryz.func52, Tryz.ntmps52
  go_wp2_with (first | (go_at_call 53; (with_reducible refine (HZ.out _).mono ?_); rintro q w' ⟨rfl, hb⟩; replace HB := bt_ HB hb; clear hb) | (go_at_call 50; (refine (HJ.out _ _ (Below.refl _ _)).mono ?_); rintro q w' ⟨rfl, hb⟩; replace HB := md_ (below_step (below_alloc HB.out _) hb); clear hb))
  go_ret
  exact ⟨rfl, HB.out⟩
 have c1 := decide_eq_false h1
 by_cases h2 : n ≤ e
 ·have c2 := decide_eq_true h2
  have HZ := md_ (fun w => d_zeros w (e - n) (by omega))
  have w1 : wrap64 (e - n) = e - n := i64_id (by omega) (by omega)
  have w2 : IntKind.i64.wrap (e - n) = e - n := (i64_w _).trans w1
  have HJ := md_ (fun (W W' : World) h => d_join3 W W' d (List.replicate (e - n).toNat 48) [46] h (by rw [List.length_replicate]; simp; omega))
  obtain ⟨ne, hne⟩ : ∃ z, e - n = z := ⟨_, rfl⟩
  rw [if_neg h1, if_pos h2]
  rw [hne] at HZ w1 w2 HJ ⊢
  have w3 : wrap64 (e - n) = ne := by rw [hne]; exact w1
  have w4 : IntKind.i64.wrap (e - n) = ne := (i64_w _).trans w3
  obtain ⟨s, hs⟩ : ∃ s, bs d = s := ⟨_, rfl⟩
  obtain ⟨r, hr⟩ : ∃ s, bs [d, List.replicate ne.toNat 48, [46]].flatten = s := ⟨_, rfl⟩
  obtain ⟨t, ht⟩ : ∃ s, bs (List.replicate ne.toNat 48) = s := ⟨_, rfl⟩
  rw [ht] at HZ
  rw [hb2, hs, ht, hr] at HJ
  rw [hs, hr]
  clear h1 h2 hb1 hb2 hs hr ht hne hd he he2 hn hn2
  go_enter Tryz.func52, Tryz.ntmps52
  go_wp2_with (first | (go_at_call 53; (with_reducible refine (HZ.out _).mono ?_); rintro q w' ⟨rfl, hb⟩; replace HB := bt_ HB hb; clear hb) | (go_at_call 50; (refine (HJ.out _ _ (Below.refl _ _)).mono ?_); rintro q w' ⟨rfl, hb⟩; replace HB := md_ (below_step (below_alloc HB.out _) hb); clear hb))
  go_ret
  exact ⟨rfl, HB.out⟩
 ·have c2 := decide_eq_false h2
  rw [if_neg h1, if_neg h2]
  have HJ := md_ (fun (W W' : World) h => d_join3 W W' (d.take e.toNat) [46] (d.drop e.toNat) h (by rw [List.length_take, List.length_drop]; simp; omega))
  obtain ⟨s, hs⟩ : ∃ s, bs d = s := ⟨_, rfl⟩
  obtain ⟨r, hr⟩ : ∃ s, bs [d.take e.toNat, [46], d.drop e.toNat].flatten = s := ⟨_, rfl⟩
  obtain ⟨t, ht⟩ : ∃ s, bs (d.take e.toNat) = s := ⟨_, rfl⟩
  obtain ⟨u, hu⟩ : ∃ s, bs (d.drop e.toNat) = s := ⟨_, rfl⟩
  have k1 : s.extract 0 e.toNat = t := by rw [← hs, bs_to]; exact ht
  have k2 : s.extract e.toNat s.size = u := by rw [← hs, bs_from]; exact hu
  have k3 : (0 : Int) ≤ e := by omega
  have k4 : e ≤ (s.size : Nat) := by rw [← hs, bs_size]; omega
  rw [hb2, ht, hu, hr] at HJ
  rw [hs, hr]
  clear h1 h2 hb1 hb2 hs hr ht hu hd he he2 hn hn2
  go_enter Tryz.func52, Tryz.ntmps52
  go_upto_region 5 with (fail)
  go_region_held3 (fun w' => Below w.heap.size w w')
   (first | assumption | exact HB.out | exact below_drew (by assumption) | exact below_drew HB.out | exact below_alloc HB.out _ | exact below_drew (below_alloc HB.out _) | exact below_alloc (by assumption) _ | exact below_drew (below_alloc (by assumption) _) | exact Below.trans (by assumption) (hb_.mono (Below.size (by assumption))))
   ((go_at_call 50; (refine (HJ.out _ _ (by repeat (first | exact Below.refl _ _ | apply below_drew))).mono ?_); rintro q w2 ⟨rfl, hb_⟩))
  go_wp2
  go_ret
  exact ⟨rfl, by assumption⟩
end Go.Proofs.YtdoeigngpemcgaaGreatDoor.Dec
namespace Go.Proofs.YtdoeigngpemcgaaGreatDoor.Dec
open Go.RowKit Go.Flt Go.Read Go.Proofs.YtdoeigngpemcgaaGreatDoor.Pure YtdoeigngpemcgaaGreatDoorW.PrintWords YtdoeigngpemcgaaGreatDoorW.PrintLast YtdoeigngpemcgaaGreatDoorW.PrintMore
theorem decL_trim (l : List UInt8) : Num.decL 0 (trim0 l) = Num.decL 0 l := by
 induction l with
 | nil => rfl
 | cons c t ih =>
  unfold trim0
  rw [List.dropWhile_cons]
  by_cases h : c = 48
  ·subst h
   exact ih
  ·rw [if_neg (by simpa using h)]
theorem trim_digs {l : List UInt8} (h : Num.digs l = true) : Num.digs (trim0 l) = true := by
 unfold Num.digs at *
 rw [List.all_eq_true] at *
 exact fun x hx => h x ((List.dropWhile_sublist _).mem hx)
theorem trim_len (l : List UInt8) : (trim0 l).length ≤ l.length := (List.dropWhile_sublist _).length_le
theorem trim_pos {l : List UInt8} (h : Num.digs l = true) (h0 : trim0 l ≠ []) : 10 ^ ((trim0 l).length - 1) ≤ Num.decL 0 l := by
 rw [← decL_trim]
 have hd := trim_digs h
 match ht : trim0 l, h0 with
 | c :: t, _ =>
  rw [ht] at hd
  have hc := Num.digs_mem hd c List.mem_cons_self
  have hne : c ≠ 48 := fun e => by
   have : ∀ (l m : List UInt8) (x : UInt8), l.dropWhile (· == 48) = x :: m → x ≠ 48 := by
    intro l
    induction l with
    | nil => intro m x h; cases h
    | cons a b ih =>
     intro m x h
     rw [List.dropWhile_cons] at h
     by_cases k : a = 48
     ·rw [if_pos (by simpa using k)] at h; exact ih m x h
     ·rw [if_neg (by simpa using k)] at h
      cases h
      exact k
   exact this l t c ht e
  have hn : 48 ≠ c.toNat := fun e => hne (UInt8.toNat_inj.1 e.symm)
  show 10 ^ t.length ≤ Num.decL (0 * 10 + (c.toNat - 48)) t
  rw [Num.decL_acc]
  have : 1 * 10 ^ t.length ≤ (0 * 10 + (c.toNat - 48)) * 10 ^ t.length := Nat.mul_le_mul_right _ (by omega)
  omega
theorem d_float (w : World) (neg : Bool) (l : List UInt8) (hd : Num.digs l = true) (hl : l.length ≤ 400) (e : Int) :
  Calls Tryz.prog 31 #[.bool neg, .string (bs l), .int .i64 e] w fun x w' => x = .returned (.int .u64 ((sg neg (flt (Num.decL 0 l) e) : Nat) : Int)) ∧ Below w.heap.size w w' := by
 have ht : bs (trim0 l) = ⟨(Lib.trimLeftB (bs l).data.toList 48).toArray⟩ := rfl
 have htd := trim_digs hd
 have htl := trim_len l
 have hlt : Num.decL 0 l < 10 ^ l.length := Num.decL_lt l (Num.digs_mem hd)
 by_cases h0 : trim0 l = []
 ·have hz : Num.decL 0 l = 0 := by rw [← decL_trim, h0]; rfl
  rw [hz, flt_nil]
  exact d_float_zero w neg (bs l) _ ht e (.inl (by rw [h0]; rfl))
 have hne : bs (trim0 l) ≠ ⟨#[]⟩ := fun h => h0 (by rw [← bs_list (trim0 l), h]; exact bs_list [])
 have hpos := trim_pos hd h0
 have hpp : 0 < 10 ^ ((trim0 l).length - 1) := Nat.pow_pos (by decide)
 obtain ⟨K, hK⟩ : ∃ K, K = 400 := ⟨_, rfl⟩
 by_cases h1 : e < -900
 ·rw [flt_low (k := K) (by omega) (by omega)]
  ·exact d_float_zero w neg (bs l) _ ht e (.inr h1)
  ·have : Num.decL 0 l * 10 ^ K ≤ 10 ^ l.length * 10 ^ K := Nat.mul_le_mul_right _ (by omega)
   rw [← Nat.pow_add] at this
   exact Nat.le_trans this (Nat.pow_le_pow_right (by decide) (by omega))
 by_cases h2 : 400 < e
 ·rw [flt_high (k := K) (by omega) (by omega)]
  ·exact d_float_inf w neg (bs l) _ ht e hne h2
  ·have : 1 * 10 ^ e.toNat ≤ Num.decL 0 l * 10 ^ e.toNat := Nat.mul_le_mul_right _ (by omega)
   have h4 : 10 ^ K ≤ 10 ^ e.toNat := Nat.pow_le_pow_right (by decide) (by omega)
   omega
 have hdl : (bs (trim0 l)).data.toList = trim0 l := rfl
 by_cases h3 : 0 ≤ e
 ·have h := d_float_pos w neg (bs l) _ ht e hne (by rw [hdl]; exact htd) (by rw [hdl]; omega) h3 (by omega)
  rw [hdl, decL_trim] at h
  have hf : flt (Num.decL 0 l) e = mkN (Num.decL 0 l * 10 ^ e.toNat) 0 := by
   unfold flt
   rw [if_neg (by omega), if_pos h3, fl_one (Nat.mul_pos (by omega) (Nat.pow_pos (by decide)))]
  rw [hf]
  exact h
 ·have h := d_float_neg w neg (bs l) _ ht e hne (by rw [hdl]; exact htd) (by rw [hdl]; omega) (by omega) (by omega) _ rfl
  rw [hdl, decL_trim] at h
  have hf := quo_dec (m := Num.decL 0 l) (d := 10 ^ (-e).toNat) (k := Num.bitsN (10 ^ (-e).toNat) + 70) (by omega) (Nat.pow_pos (by decide)) (by omega)
  have hg : flt (Num.decL 0 l) e = fl (Num.decL 0 l) (10 ^ (-e).toNat) := by
   unfold flt
   rw [if_neg (by omega), if_neg h3]
  rw [hg, ← hf, Nat.mul_comm 2]
  exact h
end Go.Proofs.YtdoeigngpemcgaaGreatDoor.Dec
namespace Go.Flt
open Go.Read Go.Proofs.YtdoeigngpemcgaaGreatDoor Go.Proofs.YtdoeigngpemcgaaGreatDoor.Dec
theorem step10 (m : Nat) (e k : Int) : (rhs e (k + 1) = 10 * rhs e k ∧ lhs m e (k + 1) = lhs m e k) ∨ (rhs e (k + 1) = rhs e k ∧ lhs m e k = 10 * lhs m e (k + 1)) := by
 unfold lhs rhs
 rcases Int.lt_or_le k 0 with c | c
 ·right
  rw [show (k + 1).toNat = 0 by omega, show k.toNat = 0 by omega, show (-k).toNat = (-(k + 1)).toNat + 1 by omega]
  refine ⟨rfl, ?_⟩
  rw [Nat.pow_succ, ← Nat.mul_assoc, Nat.mul_comm _ 10, Nat.mul_assoc 10]
 ·left
  rw [show (k + 1).toNat = k.toNat + 1 by omega, show (-(k + 1)).toNat = 0 by omega, show (-k).toNat = 0 by omega]
  refine ⟨?_, rfl⟩
  rw [Nat.pow_succ, Nat.mul_comm _ 10, Nat.mul_assoc]
theorem scale_ge {m c : Nat} {e k : Int} (j : Nat) (h : c * rhs e (k + j) ≤ lhs m e (k + j)) : c * 10 ^ j * rhs e k ≤ lhs m e k := by
 induction j generalizing c with
 | zero => simpa using h
 | succ j ih =>
  have h1 : c * 10 * rhs e (k + j) ≤ lhs m e (k + j) := by
   rw [show k + ((j + 1 : Nat) : Int) = k + j + 1 by omega] at h
   rcases step10 m e (k + j) with ⟨a, b⟩ | ⟨a, b⟩
   ·rw [a, b] at h
    rw [Nat.mul_assoc]
    exact h
   ·rw [a] at h
    rw [b, Nat.mul_right_comm, Nat.mul_comm _ 10]
    exact Nat.mul_le_mul_left _ h
  have := ih h1
  rw [Nat.pow_succ, Nat.mul_comm _ 10, ← Nat.mul_assoc]
  exact this
theorem scale_lt {m c : Nat} {e k : Int} (j : Nat) (h : lhs m e (k + j) < c * rhs e (k + j)) : lhs m e k < c * 10 ^ j * rhs e k := by
 induction j generalizing c with
 | zero => simpa using h
 | succ j ih =>
  have h1 : lhs m e (k + j) < c * 10 * rhs e (k + j) := by
   rw [show k + ((j + 1 : Nat) : Int) = k + j + 1 by omega] at h
   rcases step10 m e (k + j) with ⟨a, b⟩ | ⟨a, b⟩
   ·rw [a, b] at h
    rw [Nat.mul_assoc]
    exact h
   ·rw [a] at h
    rw [b, Nat.mul_right_comm, Nat.mul_comm _ 10]
    omega
  have := ih h1
  rw [Nat.pow_succ, Nat.mul_comm _ 10, ← Nat.mul_assoc]
  exact this
theorem rhs_pos (e k : Int) : 0 < rhs e k := Nat.mul_pos (Nat.pow_pos (by decide)) (Nat.two_pow_pos _)
theorem near_ge {m c : Nat} {e k : Int} (h : c * rhs e k ≤ lhs m e k) : c ≤ nearN m e k := by
 have h1 : c ≤ lhs m e k / rhs e k := (Nat.le_div_iff_mul_le (rhs_pos e k)).2 h
 unfold nearN
 split <;> omega
theorem near_le {m c : Nat} {e k : Int} (h : lhs m e k < c * rhs e k) : nearN m e k ≤ c := by
 have h1 : lhs m e k / rhs e k < c := (Nat.div_lt_iff_lt_mul (rhs_pos e k)).2 h
 unfold nearN
 split <;> omega
theorem near_dex {m : Nat} {e n D : Int} (hD : Dex m e D) (hn : 1 ≤ n) : 10 ^ (n.toNat - 1) ≤ nearN m e (D - n) ∧ nearN m e (D - n) ≤ 10 ^ n.toNat := by
 constructor
 ·apply near_ge
  have h := hD.1
  unfold rch at h
  rw [decide_eq_true_iff] at h
  have := scale_ge (m := m) (c := 1) (e := e) (k := D - n) (n.toNat - 1) (by rw [Nat.one_mul, show D - n + ((n.toNat - 1 : Nat) : Int) = D - 1 by omega]; exact h)
  rw [Nat.one_mul] at this
  exact this
 ·apply near_le
  have h := hD.2
  unfold rch at h
  rw [decide_eq_false_iff_not] at h
  have := scale_lt (m := m) (c := 1) (e := e) (k := D - n) n.toNat (by rw [Nat.one_mul, show D - n + (n.toNat : Int) = D by omega]; omega)
  rw [Nat.one_mul] at this
  exact this
theorem drop_head (l m : List UInt8) (x : UInt8) (h : l.dropWhile (· == 48) = x :: m) : x ≠ 48 := by
 induction l with
 | nil => cases h
 | cons a b ih =>
  rw [List.dropWhile_cons] at h
  by_cases k : a = 48
  ·rw [if_pos (by simpa using k)] at h; exact ih h
  ·rw [if_neg (by simpa using k)] at h
   cases h
   exact k
theorem textN_trim {v : Nat} (h : v ≠ 0) : trim0 (Num.textN v) = Num.textN v := by
 unfold Num.textN
 rw [if_neg h]
 generalize (Num.pcs v).reverse.flatMap Num.dg9 = l
 cases hl : l.dropWhile (· == 48) with
 | nil => rfl
 | cons x m =>
  unfold trim0
  rw [List.dropWhile_cons, if_neg (by simpa using drop_head l m x hl)]
theorem textN_pow {v : Nat} (h : v ≠ 0) : 10 ^ ((Num.textN v).length - 1) ≤ v ∧ v < 10 ^ (Num.textN v).length := by
 have hd := Pure.textN_digs v
 have h1 := trim_pos hd (by rw [textN_trim h]; exact textN_ne v)
 have h2 := Num.decL_lt _ (Num.digs_mem hd)
 rw [textN_trim h, Pure.textN_dec] at h1
 rw [Pure.textN_dec] at h2
 exact ⟨h1, h2⟩
theorem textN_size {v k : Nat} (h1 : 10 ^ k ≤ v) (h2 : v < 10 ^ (k + 1)) : (Num.textN v).length = k + 1 := by
 have hp : 0 < 10 ^ k := Nat.pow_pos (by decide)
 obtain ⟨a, b⟩ := textN_pow (v := v) (by omega)
 have c1 : k < (Num.textN v).length := by
  rcases Nat.lt_or_ge k (Num.textN v).length with c | c
  ·exact c
  ·have := Nat.pow_le_pow_right (show 0 < 10 by decide) c
   omega
 have c2 : (Num.textN v).length - 1 < k + 1 := by
  rcases Nat.lt_or_ge ((Num.textN v).length - 1) (k + 1) with c | c
  ·exact c
  ·have := Nat.pow_le_pow_right (show 0 < 10 by decide) c
   omega
 omega
theorem pow_pred {n : Int} (hn : 1 ≤ n) : ∃ k, n.toNat = k + 1 ∧ n.toNat - 1 = k ∧ (n : Int) = k + 1 := ⟨n.toNat - 1, by omega, rfl, by omega⟩
theorem near_text {m : Nat} {e n D : Int} (hD : Dex m e D) (hn : 1 ≤ n) :
  ((Num.textN (nearN m e (D - n))).length = n.toNat ∧ nearN m e (D - n) < 10 ^ n.toNat) ∨ ((Num.textN (nearN m e (D - n))).length = n.toNat + 1 ∧ nearN m e (D - n) = 10 ^ n.toNat) := by
 obtain ⟨h1, h2⟩ := near_dex hD hn
 obtain ⟨k, k1, k2, k3⟩ := pow_pred hn
 rw [k2] at h1
 rcases Nat.lt_or_ge (nearN m e (D - n)) (10 ^ n.toNat) with c | c
 ·left
  rw [k1] at c ⊢
  exact ⟨textN_size h1 c, c⟩
 ·right
  have hq : nearN m e (D - n) = 10 ^ n.toNat := Nat.le_antisymm h2 c
  refine ⟨?_, hq⟩
  apply textN_size c
  rw [hq, Nat.pow_succ]
  have : 0 < 10 ^ n.toNat := Nat.pow_pos (by decide)
  omega
theorem repText_size {a : Nat} (hf : ffin a = true) {n : Int} (hn : 1 ≤ n) : (repText a n).length = n.toNat := by
 unfold repText
 split
 ·rw [List.length_replicate]
 ·have hz : fmant a ≠ 0 := by assumption
  unfold repT
  rw [List.length_take]
  rcases near_text (rep_dex hf hz) hn with ⟨h, _⟩ | ⟨h, _⟩ <;> rw [h] <;> omega
end Go.Flt
namespace Go.Flt
def many (n : Int) : Int := min (max n 1) 17
end Go.Flt
namespace Go.Proofs.YtdoeigngpemcgaaGreatDoor.Dec
open Go.RowKit Go.Flt Go.Read PDec Go.Proofs.YtdoeigngpemcgaaGreatDoor.Pure YtdoeigngpemcgaaGreatDoorW.PrintWords YtdoeigngpemcgaaGreatDoorW.PrintLast YtdoeigngpemcgaaGreatDoorW.PrintMore
attribute [local go_sem] max2_int min2_int max_two min_two max_three min_three max_four min_four
def zero1 (l : List UInt8) : Bool := l.head? == some 48
def oddV (a : Nat) : List UInt8 := if a = 9218868437227405312 then [73, 110, 102] else if a = 18442240474082181120 then [45, 73, 110, 102] else [78, 97, 78]
def shownV (a : Nat) (r : List UInt8) : List UInt8 := if ffin a then (if fneg a then 45 :: r else r) else oddV a
theorem head_fact {l : List UInt8} (h : l ≠ []) : ∃ c : Nat, (∀ h, ((bs l)[0]'h).toNat = c) ∧ ((c : Int) == 48) = zero1 l ∧ 0 < (bs l).size := by
 match l, h with
 | x :: t, _ =>
  refine ⟨x.toNat, fun h => rfl, ?_, by rw [bs_size, List.length_cons]; omega⟩
  unfold zero1
  rw [List.head?_cons]
  by_cases k : x = 48
  ·subst k; rfl
  ·have k1 : ((some x : Option UInt8) == some 48) = false := by simpa using k
   rw [k1, beq_eq_false_iff_ne]
   have k2 : x.toNat ≠ 48 := fun e => k (UInt8.toNat_inj.1 e)
   omega
set_option maxRecDepth 100000 in
theorem s_Neg_inf (w : World) : Calls Tryz.prog 106 #[.int .u64 9218868437227405312] w fun e w' => e = .returned (.int .u64 18442240474082181120) ∧ Below w.heap.size w w' := by
 have HN : Aside0 (∀ w, Calls Tryz.prog 59 #[.int .u64 9218868437227405312] w fun e w' => e = .returned (.bool false) ∧ Drawn0 w w') := ⟨fun w => s_isNaN w 9218868437227405312 (by decide)⟩
 have hx : bits .xor .u64 9218868437227405312 9223372036854775808 = 18442240474082181120 := by decide +kernel
 have HB := md_ (Below.refl w.heap.size w)
 go_enter Tryz.func106, Tryz.ntmps106
 go_wp2_with (go_at_call 59; (with_reducible refine (HN.out _).mono ?_); rintro e w' ⟨rfl, ⟨nd, rfl⟩⟩)
 go_ret
 exact ⟨by first | rfl | rw [hx], by repeat (first | exact HB.out | apply pw_below_drewN)⟩
set_option maxRecDepth 100000 in
theorem d_shown_fixed (w : World) (a : Nat) (ha : a < 18446744073709551616) (hf : ffin a = true) (n : Int) (r : List UInt8) (hr : r.length ≤ 1000000) (w0 : World) (hw0 : Below w0.heap.size w0 w)
  (HF : ∀ w, Below w0.heap.size w0 w → Calls Tryz.prog 52 #[.string (bs (repText a (many n))), .int .i64 (repExp a (many n)), .int .i64 (many n), .bool (zero1 (repText a (many n)))] w fun x w' => x = .returned (.string (bs r)) ∧ Below w.heap.size w w') :
  Calls Tryz.prog 48 #[.int .u64 (a : Int), .int .i64 n, .func (.func 52) #[] #[]] w fun x w' => x = .returned (.string (bs (if fneg a then 45 :: r else r))) ∧ Below w0.heap.size w0 w' := by
 obtain ⟨mx, hm0⟩ : ∃ z, max n 1 = z := ⟨_, rfl⟩
 obtain ⟨m, hm⟩ : ∃ z, min mx 17 = z := ⟨_, rfl⟩
 have hmm : many n = m := by unfold many; rw [hm0, hm]
 have hm1 : (if n < 1 then 1 else n) = mx := by rw [← hm0]; split <;> omega
 have hm2 : (if 17 < mx then 17 else mx) = m := by rw [← hm]; split <;> omega
 rw [hmm] at HF
 have HR := md_ (fun w => d_Rep w a ha hf m (by omega) (by omega))
 obtain ⟨c0, hc1, hc2, hc3⟩ := head_fact (repText_ne (a := a) (n := m) (by omega))
 obtain ⟨t, ht⟩ : ∃ z, bs (repText a m) = z := ⟨_, rfl⟩
 have hc4 : decide ((c0 : Int) = 48) = zero1 (repText a m) := by rw [← hc2]; exact (Bool.beq_eq_decide_eq _ _).symm
 obtain ⟨zf, hzf⟩ : ∃ z, zero1 (repText a m) = z := ⟨_, rfl⟩
 obtain ⟨x, hx⟩ : ∃ z, repExp a m = z := ⟨_, rfl⟩
 obtain ⟨aa, haa⟩ : ∃ z : Int, (a : Int) = z := ⟨_, rfl⟩
 obtain ⟨neg, hneg⟩ : ∃ z, fneg a = z := ⟨_, rfl⟩
 obtain ⟨u, hu⟩ : ∃ z, bs r = z := ⟨_, rfl⟩
 have hcat : ⟨#[45]⟩ ++ u = bs (45 :: r) := by rw [← hu]; apply ByteArray.ext; simp [bs]
 have hsz : ¬ 9223372036854775807 < 1 + u.size := by rw [← hu, bs_size]; omega
 rw [ht, hx, hzf, hu] at HF
 rw [ht, hx, haa, hneg] at HR
 rw [ht] at hc1 hc3
 rw [hzf] at hc2 hc4
 have hc5 : (0 : Int) < (t.size : Nat) := by omega
 rw [haa, hneg]
 have HFF := md_ HF
 have HB := md_ hw0
 obtain ⟨v, hv⟩ : ∃ z, bs (45 :: r) = z := ⟨_, rfl⟩
 rw [hv] at hcat
 have hres : ∀ b : Bool, bs (if b then 45 :: r else r) = if b then v else u := fun b => by cases b; exact hu; exact hv
 rw [hres]
 have HH := md_ (fun (w1 w2 : World) (h : Below w1.heap.size w1 w2) (k : Below w0.heap.size w0 w1) => below_step k h)
 clear HF hw0 ht hx hzf hu haa hneg hv hres ha hf hmm hr
 cases neg with
 | false =>
  go_enter Tryz.func48, Tryz.ntmps48
  go_upto_region 10 with (go_at_call 13; (with_reducible refine (HR.out _).mono ?_); rintro q w' ⟨rfl, hb⟩; replace HB := md_ (HH.out _ _ hb HB.out); clear hb)
  obtain ⟨g, hg⟩ : ∃ g, w'.heap.size = g := ⟨_, rfl⟩
  generalize hW : w'.alloc (Obj.cells #[Value.string t, Value.int .i64 x, Value.bool false] 28) = W1
  have BK := md_ (show W1.heap[g]? = some (.cells #[.string t, .int .i64 x, .bool false] 28 (0, 0)) by rw [← hW, ← hg]; exact blk_new _ _)
  replace HB := md_ (show Below w0.heap.size w0 W1 by rw [← hW]; exact below_alloc HB.out _)
  clear hW
  rw [hg]
  clear hg
  have z0 := (blk_cell BK.out 0).trans (show _ = some (Value.string t) from rfl)
  have z1 := (blk_cell BK.out 1).trans (show _ = some (Value.int .i64 x) from rfl)
  have z2 := (blk_cell BK.out 2).trans (show _ = some (Value.bool false) from rfl)
  go_region_held3 (fun w' => w'.cell? ⟨g, 0, none⟩ = some (.string t) ∧ w'.cell? ⟨g, 1, none⟩ = some (.int .i64 x) ∧ w'.cell? ⟨g, 2, none⟩ = some (.bool false) ∧ Below w0.heap.size w0 w')
   (((try go_split_ands); refine ⟨?_, ?_, ?_, ?_⟩ <;> first
    | assumption
    | exact HB.out
    | exact pw_cell_below hb_ (by assumption)
    | exact pw_cell_below (below_drew (Below.refl _ _)) (by assumption)
    | exact below_drew (by assumption)
    | exact below_drew HB.out
    | exact Below.trans (by assumption) (hb_.mono (Below.size (by assumption)))))
   ((go_at_call 52; go_split_ands; (refine (HFF.out _ (by assumption)).mono ?_); rintro q w2 ⟨rfl, hb_⟩))
  (try go_split_ands)
  go_wp2
  go_ret
  exact ⟨rfl, by assumption⟩
 | true =>
  go_enter Tryz.func48, Tryz.ntmps48
  go_upto_region 10 with (go_at_call 13; (with_reducible refine (HR.out _).mono ?_); rintro q w' ⟨rfl, hb⟩; replace HB := md_ (HH.out _ _ hb HB.out); clear hb)
  obtain ⟨g, hg⟩ : ∃ g, w'.heap.size = g := ⟨_, rfl⟩
  generalize hW : w'.alloc (Obj.cells #[Value.string t, Value.int .i64 x, Value.bool true] 28) = W1
  have BK := md_ (show W1.heap[g]? = some (.cells #[.string t, .int .i64 x, .bool true] 28 (0, 0)) by rw [← hW, ← hg]; exact blk_new _ _)
  replace HB := md_ (show Below w0.heap.size w0 W1 by rw [← hW]; exact below_alloc HB.out _)
  clear hW
  rw [hg]
  clear hg
  have z0 := (blk_cell BK.out 0).trans (show _ = some (Value.string t) from rfl)
  have z1 := (blk_cell BK.out 1).trans (show _ = some (Value.int .i64 x) from rfl)
  have z2 := (blk_cell BK.out 2).trans (show _ = some (Value.bool true) from rfl)
  go_region_held3 (fun w' => w'.cell? ⟨g, 0, none⟩ = some (.string t) ∧ w'.cell? ⟨g, 1, none⟩ = some (.int .i64 x) ∧ w'.cell? ⟨g, 2, none⟩ = some (.bool true) ∧ Below w0.heap.size w0 w')
   (((try go_split_ands); refine ⟨?_, ?_, ?_, ?_⟩ <;> first
    | assumption
    | exact HB.out
    | exact pw_cell_below hb_ (by assumption)
    | exact pw_cell_below (below_drew (Below.refl _ _)) (by assumption)
    | exact below_drew (by assumption)
    | exact below_drew HB.out
    | exact Below.trans (by assumption) (hb_.mono (Below.size (by assumption)))))
   ((go_at_call 52; go_split_ands; (refine (HFF.out _ (by assumption)).mono ?_); rintro q w2 ⟨rfl, hb_⟩))
  (try go_split_ands)
  go_wp2
  go_ret
  exact ⟨rfl, by assumption⟩
set_option maxRecDepth 100000 in
theorem d_shown_science (w : World) (a : Nat) (ha : a < 18446744073709551616) (hf : ffin a = true) (n : Int) (r : List UInt8) (hr : r.length ≤ 1000000) (w0 : World) (hw0 : Below w0.heap.size w0 w)
  (HF : ∀ w, Below w0.heap.size w0 w → Calls Tryz.prog 49 #[.string (bs (repText a (many n))), .int .i64 (repExp a (many n)), .int .i64 (many n), .bool (zero1 (repText a (many n)))] w fun x w' => x = .returned (.string (bs r)) ∧ Below w.heap.size w w') :
  Calls Tryz.prog 48 #[.int .u64 (a : Int), .int .i64 n, .func (.func 49) #[] #[]] w fun x w' => x = .returned (.string (bs (if fneg a then 45 :: r else r))) ∧ Below w0.heap.size w0 w' := by
 obtain ⟨mx, hm0⟩ : ∃ z, max n 1 = z := ⟨_, rfl⟩
 obtain ⟨m, hm⟩ : ∃ z, min mx 17 = z := ⟨_, rfl⟩
 have hmm : many n = m := by unfold many; rw [hm0, hm]
 have hm1 : (if n < 1 then 1 else n) = mx := by rw [← hm0]; split <;> omega
 have hm2 : (if 17 < mx then 17 else mx) = m := by rw [← hm]; split <;> omega
 rw [hmm] at HF
 have HR := md_ (fun w => d_Rep w a ha hf m (by omega) (by omega))
 obtain ⟨c0, hc1, hc2, hc3⟩ := head_fact (repText_ne (a := a) (n := m) (by omega))
 obtain ⟨t, ht⟩ : ∃ z, bs (repText a m) = z := ⟨_, rfl⟩
 have hc4 : decide ((c0 : Int) = 48) = zero1 (repText a m) := by rw [← hc2]; exact (Bool.beq_eq_decide_eq _ _).symm
 obtain ⟨zf, hzf⟩ : ∃ z, zero1 (repText a m) = z := ⟨_, rfl⟩
 obtain ⟨x, hx⟩ : ∃ z, repExp a m = z := ⟨_, rfl⟩
 obtain ⟨aa, haa⟩ : ∃ z : Int, (a : Int) = z := ⟨_, rfl⟩
 obtain ⟨neg, hneg⟩ : ∃ z, fneg a = z := ⟨_, rfl⟩
 obtain ⟨u, hu⟩ : ∃ z, bs r = z := ⟨_, rfl⟩
 have hcat : ⟨#[45]⟩ ++ u = bs (45 :: r) := by rw [← hu]; apply ByteArray.ext; simp [bs]
 have hsz : ¬ 9223372036854775807 < 1 + u.size := by rw [← hu, bs_size]; omega
 rw [ht, hx, hzf, hu] at HF
 rw [ht, hx, haa, hneg] at HR
 rw [ht] at hc1 hc3
 rw [hzf] at hc2 hc4
 have hc5 : (0 : Int) < (t.size : Nat) := by omega
 rw [haa, hneg]
 have HFF := md_ HF
 have HB := md_ hw0
 obtain ⟨v, hv⟩ : ∃ z, bs (45 :: r) = z := ⟨_, rfl⟩
 rw [hv] at hcat
 have hres : ∀ b : Bool, bs (if b then 45 :: r else r) = if b then v else u := fun b => by cases b; exact hu; exact hv
 rw [hres]
 have HH := md_ (fun (w1 w2 : World) (h : Below w1.heap.size w1 w2) (k : Below w0.heap.size w0 w1) => below_step k h)
 clear HF hw0 ht hx hzf hu haa hneg hv hres ha hf hmm hr
 cases neg with
 | false =>
  go_enter Tryz.func48, Tryz.ntmps48
  go_upto_region 10 with (go_at_call 13; (with_reducible refine (HR.out _).mono ?_); rintro q w' ⟨rfl, hb⟩; replace HB := md_ (HH.out _ _ hb HB.out); clear hb)
  obtain ⟨g, hg⟩ : ∃ g, w'.heap.size = g := ⟨_, rfl⟩
  generalize hW : w'.alloc (Obj.cells #[Value.string t, Value.int .i64 x, Value.bool false] 28) = W1
  have BK := md_ (show W1.heap[g]? = some (.cells #[.string t, .int .i64 x, .bool false] 28 (0, 0)) by rw [← hW, ← hg]; exact blk_new _ _)
  replace HB := md_ (show Below w0.heap.size w0 W1 by rw [← hW]; exact below_alloc HB.out _)
  clear hW
  rw [hg]
  clear hg
  have z0 := (blk_cell BK.out 0).trans (show _ = some (Value.string t) from rfl)
  have z1 := (blk_cell BK.out 1).trans (show _ = some (Value.int .i64 x) from rfl)
  have z2 := (blk_cell BK.out 2).trans (show _ = some (Value.bool false) from rfl)
  go_region_held3 (fun w' => w'.cell? ⟨g, 0, none⟩ = some (.string t) ∧ w'.cell? ⟨g, 1, none⟩ = some (.int .i64 x) ∧ w'.cell? ⟨g, 2, none⟩ = some (.bool false) ∧ Below w0.heap.size w0 w')
   (((try go_split_ands); refine ⟨?_, ?_, ?_, ?_⟩ <;> first
    | assumption
    | exact HB.out
    | exact pw_cell_below hb_ (by assumption)
    | exact pw_cell_below (below_drew (Below.refl _ _)) (by assumption)
    | exact below_drew (by assumption)
    | exact below_drew HB.out
    | exact Below.trans (by assumption) (hb_.mono (Below.size (by assumption)))))
   ((go_at_call 49; go_split_ands; (refine (HFF.out _ (by assumption)).mono ?_); rintro q w2 ⟨rfl, hb_⟩))
  (try go_split_ands)
  go_wp2
  go_ret
  exact ⟨rfl, by assumption⟩
 | true =>
  go_enter Tryz.func48, Tryz.ntmps48
  go_upto_region 10 with (go_at_call 13; (with_reducible refine (HR.out _).mono ?_); rintro q w' ⟨rfl, hb⟩; replace HB := md_ (HH.out _ _ hb HB.out); clear hb)
  obtain ⟨g, hg⟩ : ∃ g, w'.heap.size = g := ⟨_, rfl⟩
  generalize hW : w'.alloc (Obj.cells #[Value.string t, Value.int .i64 x, Value.bool true] 28) = W1
  have BK := md_ (show W1.heap[g]? = some (.cells #[.string t, .int .i64 x, .bool true] 28 (0, 0)) by rw [← hW, ← hg]; exact blk_new _ _)
  replace HB := md_ (show Below w0.heap.size w0 W1 by rw [← hW]; exact below_alloc HB.out _)
  clear hW
  rw [hg]
  clear hg
  have z0 := (blk_cell BK.out 0).trans (show _ = some (Value.string t) from rfl)
  have z1 := (blk_cell BK.out 1).trans (show _ = some (Value.int .i64 x) from rfl)
  have z2 := (blk_cell BK.out 2).trans (show _ = some (Value.bool true) from rfl)
  go_region_held3 (fun w' => w'.cell? ⟨g, 0, none⟩ = some (.string t) ∧ w'.cell? ⟨g, 1, none⟩ = some (.int .i64 x) ∧ w'.cell? ⟨g, 2, none⟩ = some (.bool true) ∧ Below w0.heap.size w0 w')
   (((try go_split_ands); refine ⟨?_, ?_, ?_, ?_⟩ <;> first
    | assumption
    | exact HB.out
    | exact pw_cell_below hb_ (by assumption)
    | exact pw_cell_below (below_drew (Below.refl _ _)) (by assumption)
    | exact below_drew (by assumption)
    | exact below_drew HB.out
    | exact Below.trans (by assumption) (hb_.mono (Below.size (by assumption)))))
   ((go_at_call 49; go_split_ands; (refine (HFF.out _ (by assumption)).mono ?_); rintro q w2 ⟨rfl, hb_⟩))
  (try go_split_ands)
  go_wp2
  go_ret
  exact ⟨rfl, by assumption⟩
set_option maxRecDepth 100000 in
theorem d_shown_engineer (w : World) (a : Nat) (ha : a < 18446744073709551616) (hf : ffin a = true) (n : Int) (r : List UInt8) (hr : r.length ≤ 1000000) (w0 : World) (hw0 : Below w0.heap.size w0 w)
  (HF : ∀ w, Below w0.heap.size w0 w → Calls Tryz.prog 58 #[.string (bs (repText a (many n))), .int .i64 (repExp a (many n)), .int .i64 (many n), .bool (zero1 (repText a (many n)))] w fun x w' => x = .returned (.string (bs r)) ∧ Below w.heap.size w w') :
  Calls Tryz.prog 48 #[.int .u64 (a : Int), .int .i64 n, .func (.func 58) #[] #[]] w fun x w' => x = .returned (.string (bs (if fneg a then 45 :: r else r))) ∧ Below w0.heap.size w0 w' := by
 obtain ⟨mx, hm0⟩ : ∃ z, max n 1 = z := ⟨_, rfl⟩
 obtain ⟨m, hm⟩ : ∃ z, min mx 17 = z := ⟨_, rfl⟩
 have hmm : many n = m := by unfold many; rw [hm0, hm]
 have hm1 : (if n < 1 then 1 else n) = mx := by rw [← hm0]; split <;> omega
 have hm2 : (if 17 < mx then 17 else mx) = m := by rw [← hm]; split <;> omega
 rw [hmm] at HF
 have HR := md_ (fun w => d_Rep w a ha hf m (by omega) (by omega))
 obtain ⟨c0, hc1, hc2, hc3⟩ := head_fact (repText_ne (a := a) (n := m) (by omega))
 obtain ⟨t, ht⟩ : ∃ z, bs (repText a m) = z := ⟨_, rfl⟩
 have hc4 : decide ((c0 : Int) = 48) = zero1 (repText a m) := by rw [← hc2]; exact (Bool.beq_eq_decide_eq _ _).symm
 obtain ⟨zf, hzf⟩ : ∃ z, zero1 (repText a m) = z := ⟨_, rfl⟩
 obtain ⟨x, hx⟩ : ∃ z, repExp a m = z := ⟨_, rfl⟩
 obtain ⟨aa, haa⟩ : ∃ z : Int, (a : Int) = z := ⟨_, rfl⟩
 obtain ⟨neg, hneg⟩ : ∃ z, fneg a = z := ⟨_, rfl⟩
 obtain ⟨u, hu⟩ : ∃ z, bs r = z := ⟨_, rfl⟩
 have hcat : ⟨#[45]⟩ ++ u = bs (45 :: r) := by rw [← hu]; apply ByteArray.ext; simp [bs]
 have hsz : ¬ 9223372036854775807 < 1 + u.size := by rw [← hu, bs_size]; omega
 rw [ht, hx, hzf, hu] at HF
 rw [ht, hx, haa, hneg] at HR
 rw [ht] at hc1 hc3
 rw [hzf] at hc2 hc4
 have hc5 : (0 : Int) < (t.size : Nat) := by omega
 rw [haa, hneg]
 have HFF := md_ HF
 have HB := md_ hw0
 obtain ⟨v, hv⟩ : ∃ z, bs (45 :: r) = z := ⟨_, rfl⟩
 rw [hv] at hcat
 have hres : ∀ b : Bool, bs (if b then 45 :: r else r) = if b then v else u := fun b => by cases b; exact hu; exact hv
 rw [hres]
 have HH := md_ (fun (w1 w2 : World) (h : Below w1.heap.size w1 w2) (k : Below w0.heap.size w0 w1) => below_step k h)
 clear HF hw0 ht hx hzf hu haa hneg hv hres ha hf hmm hr
 cases neg with
 | false =>
  go_enter Tryz.func48, Tryz.ntmps48
  go_upto_region 10 with (go_at_call 13; (with_reducible refine (HR.out _).mono ?_); rintro q w' ⟨rfl, hb⟩; replace HB := md_ (HH.out _ _ hb HB.out); clear hb)
  obtain ⟨g, hg⟩ : ∃ g, w'.heap.size = g := ⟨_, rfl⟩
  generalize hW : w'.alloc (Obj.cells #[Value.string t, Value.int .i64 x, Value.bool false] 28) = W1
  have BK := md_ (show W1.heap[g]? = some (.cells #[.string t, .int .i64 x, .bool false] 28 (0, 0)) by rw [← hW, ← hg]; exact blk_new _ _)
  replace HB := md_ (show Below w0.heap.size w0 W1 by rw [← hW]; exact below_alloc HB.out _)
  clear hW
  rw [hg]
  clear hg
  have z0 := (blk_cell BK.out 0).trans (show _ = some (Value.string t) from rfl)
  have z1 := (blk_cell BK.out 1).trans (show _ = some (Value.int .i64 x) from rfl)
  have z2 := (blk_cell BK.out 2).trans (show _ = some (Value.bool false) from rfl)
  go_region_held3 (fun w' => w'.cell? ⟨g, 0, none⟩ = some (.string t) ∧ w'.cell? ⟨g, 1, none⟩ = some (.int .i64 x) ∧ w'.cell? ⟨g, 2, none⟩ = some (.bool false) ∧ Below w0.heap.size w0 w')
   (((try go_split_ands); refine ⟨?_, ?_, ?_, ?_⟩ <;> first
    | assumption
    | exact HB.out
    | exact pw_cell_below hb_ (by assumption)
    | exact pw_cell_below (below_drew (Below.refl _ _)) (by assumption)
    | exact below_drew (by assumption)
    | exact below_drew HB.out
    | exact Below.trans (by assumption) (hb_.mono (Below.size (by assumption)))))
   ((go_at_call 58; go_split_ands; (refine (HFF.out _ (by assumption)).mono ?_); rintro q w2 ⟨rfl, hb_⟩))
  (try go_split_ands)
  go_wp2
  go_ret
  exact ⟨rfl, by assumption⟩
 | true =>
  go_enter Tryz.func48, Tryz.ntmps48
  go_upto_region 10 with (go_at_call 13; (with_reducible refine (HR.out _).mono ?_); rintro q w' ⟨rfl, hb⟩; replace HB := md_ (HH.out _ _ hb HB.out); clear hb)
  obtain ⟨g, hg⟩ : ∃ g, w'.heap.size = g := ⟨_, rfl⟩
  generalize hW : w'.alloc (Obj.cells #[Value.string t, Value.int .i64 x, Value.bool true] 28) = W1
  have BK := md_ (show W1.heap[g]? = some (.cells #[.string t, .int .i64 x, .bool true] 28 (0, 0)) by rw [← hW, ← hg]; exact blk_new _ _)
  replace HB := md_ (show Below w0.heap.size w0 W1 by rw [← hW]; exact below_alloc HB.out _)
  clear hW
  rw [hg]
  clear hg
  have z0 := (blk_cell BK.out 0).trans (show _ = some (Value.string t) from rfl)
  have z1 := (blk_cell BK.out 1).trans (show _ = some (Value.int .i64 x) from rfl)
  have z2 := (blk_cell BK.out 2).trans (show _ = some (Value.bool true) from rfl)
  go_region_held3 (fun w' => w'.cell? ⟨g, 0, none⟩ = some (.string t) ∧ w'.cell? ⟨g, 1, none⟩ = some (.int .i64 x) ∧ w'.cell? ⟨g, 2, none⟩ = some (.bool true) ∧ Below w0.heap.size w0 w')
   (((try go_split_ands); refine ⟨?_, ?_, ?_, ?_⟩ <;> first
    | assumption
    | exact HB.out
    | exact pw_cell_below hb_ (by assumption)
    | exact pw_cell_below (below_drew (Below.refl _ _)) (by assumption)
    | exact below_drew (by assumption)
    | exact below_drew HB.out
    | exact Below.trans (by assumption) (hb_.mono (Below.size (by assumption)))))
   ((go_at_call 58; go_split_ands; (refine (HFF.out _ (by assumption)).mono ?_); rintro q w2 ⟨rfl, hb_⟩))
  (try go_split_ands)
  go_wp2
  go_ret
  exact ⟨rfl, by assumption⟩
set_option maxRecDepth 100000 in
theorem d_shown_odd (w : World) (a : Nat) (ha : a < 18446744073709551616) (hf : ffin a = false) (n : Int) (F : Nat) :
  Calls Tryz.prog 48 #[.int .u64 (a : Int), .int .i64 n, .func (.func F) #[] #[]] w fun x w' => x = .returned (.string (bs (oddV a))) ∧ Below w.heap.size w w' := by
 obtain ⟨mx, hm0⟩ : ∃ z, max n 1 = z := ⟨_, rfl⟩
 obtain ⟨m, hm⟩ : ∃ z, min mx 17 = z := ⟨_, rfl⟩
 have hm1 : (if n < 1 then 1 else n) = mx := by rw [← hm0]; split <;> omega
 have hm2 : (if 17 < mx then 17 else mx) = m := by rw [← hm]; split <;> omega
 have HR := md_ (fun w => d_Rep_bad w a ha m (.inr (.inr hf)))
 have HN := md_ (fun w => s_Neg_inf w)
 have HB := md_ (Below.refl w.heap.size w)
 obtain ⟨aa, haa⟩ : ∃ z : Int, (a : Int) = z := ⟨_, rfl⟩
 rw [haa] at HR ⊢
 unfold oddV
 by_cases h1 : a = 9218868437227405312
 ·have c1 : aa = 9218868437227405312 := by omega
  rw [if_pos h1]
  have hb : bs [73, 110, 102] = ⟨#[73, 110, 102]⟩ := rfl
  rw [hb]
  subst c1
  clear ha hf h1 haa hb
  go_enter Tryz.func48, Tryz.ntmps48
  go_wp2_with (go_at_call 13; (with_reducible refine (HR.out _).mono ?_); rintro q w' ⟨rfl, hb⟩; replace HB := bt_ HB hb; clear hb)
  go_ret
  exact ⟨rfl, by repeat (first | exact HB.out | apply below_alloc)⟩
 have c1 : (aa == 9218868437227405312) = false := by rw [beq_eq_false_iff_ne]; omega
 have c2 : decide (aa = 9218868437227405312) = false := decide_eq_false (by omega)
 have c3 : ¬ aa = 9218868437227405312 := by omega
 rw [if_neg h1]
 by_cases h2 : a = 18442240474082181120
 ·have c4 : aa = 18442240474082181120 := by omega
  rw [if_pos h2]
  have hb : bs [45, 73, 110, 102] = ⟨#[45, 73, 110, 102]⟩ := rfl
  rw [hb]
  subst c4
  clear ha hf h1 h2 haa hb c1 c2 c3
  go_enter Tryz.func48, Tryz.ntmps48
  go_wp2_with (first | (go_at_call 13; (with_reducible refine (HR.out _).mono ?_); rintro q w' ⟨rfl, hb⟩; replace HB := bt_ HB hb; clear hb) | (go_at_call 106; (with_reducible refine (HN.out _).mono ?_); rintro q w' ⟨rfl, hb⟩; replace HB := md_ (below_step (below_alloc HB.out _) hb); clear hb))
  go_ret
  exact ⟨rfl, by repeat (first | exact HB.out | apply below_alloc)⟩
 ·have c4 : (aa == 18442240474082181120) = false := by rw [beq_eq_false_iff_ne]; omega
  have c5 : decide (aa = 18442240474082181120) = false := decide_eq_false (by omega)
  have c6 : ¬ aa = 18442240474082181120 := by omega
  rw [if_neg h2]
  have hb : bs [78, 97, 78] = ⟨#[78, 97, 78]⟩ := rfl
  rw [hb]
  clear ha hf h1 h2 haa hb
  go_enter Tryz.func48, Tryz.ntmps48
  go_wp2_with (first | (go_at_call 13; (with_reducible refine (HR.out _).mono ?_); rintro q w' ⟨rfl, hb⟩; replace HB := bt_ HB hb; clear hb) | (go_at_call 106; (with_reducible refine (HN.out _).mono ?_); rintro q w' ⟨rfl, hb⟩; replace HB := md_ (below_step (below_alloc HB.out _) hb); clear hb))
  go_ret
  exact ⟨rfl, by repeat (first | exact HB.out | apply below_alloc)⟩
theorem many_bound (n : Int) : 1 ≤ many n ∧ many n ≤ 17 := by unfold many; omega
theorem fixedV_len {d : List UInt8} {e n : Int} (hd : d.length ≤ 17) (he : -335 ≤ e) (he2 : e ≤ 343) (hn : 1 ≤ n) : (fixedV d e n).length ≤ 1000 := by
 unfold fixedV
 split
 ·simp; omega
 ·split
  ·simp; omega
  ·simp; omega
set_option maxRecDepth 100000 in
theorem d_Fixed (w : World) (a : Nat) (ha : a < 18446744073709551616) (n : Int) : Calls Tryz.prog 20 #[.int .u64 (a : Int), .int .i64 n] w fun x w' => x = .returned (.string (bs (shownV a (fixedV (repText a (many n)) (repExp a (many n)) (many n))))) ∧ Below w.heap.size w w' := by
 obtain ⟨hm1, hm2⟩ := many_bound n
 have key : ∀ w, Calls Tryz.prog 48 #[.int .u64 (a : Int), .int .i64 n, .func (.func 52) #[] #[]] w fun x w' => x = .returned (.string (bs (shownV a (fixedV (repText a (many n)) (repExp a (many n)) (many n))))) ∧ Below w.heap.size w w' := by
  intro w
  unfold shownV
  cases hf : ffin a with
  | false => exact d_shown_odd w a ha hf n 52
  | true =>
   have hl := repText_size hf hm1
   obtain ⟨b1, b2⟩ := repExp_bound hf (many n)
   exact d_shown_fixed w a ha hf n _ (Nat.le_trans (fixedV_len (by omega) b1 b2 hm1) (by decide)) w (Below.refl _ _) (fun w' _ => d_fixed w' _ _ _ _ (by omega) (by omega) (by omega) (by omega) (by omega))
 have HK := md_ key
 obtain ⟨u, hu⟩ : ∃ z, bs (shownV a (fixedV (repText a (many n)) (repExp a (many n)) (many n))) = z := ⟨_, rfl⟩
 obtain ⟨aa, haa⟩ : ∃ z : Int, (a : Int) = z := ⟨_, rfl⟩
 rw [hu, haa] at HK ⊢
 clear key hu haa ha hm1 hm2
 go_enter Tryz.func20, Tryz.ntmps20
 go_wp2_with (go_at_call 48; (with_reducible refine (HK.out _).mono ?_); rintro q w' ⟨rfl, hb⟩; have HB := md_ hb; clear hb)
 go_ret
 exact ⟨rfl, HB.out⟩
end Go.Proofs.YtdoeigngpemcgaaGreatDoor.Dec
namespace Go.Proofs.YtdoeigngpemcgaaGreatDoor.Dec
open Go.RowKit PNat Go.Proofs.YtdoeigngpemcgaaGreatDoor.Pure YtdoeigngpemcgaaGreatDoorW.PrintWords YtdoeigngpemcgaaGreatDoorW.PrintLast YtdoeigngpemcgaaGreatDoorW.PrintMore
section
variable {w : World} {v u : Value} {a b : Nat}
theorem r_Add (h0 : Nm w v a) (h1 : Nm w u b) (fa : Fit a) (fb : Fit b) :
  Calls Tryz.prog 104 #[v, u] w fun e w' => ∃ r, e = .returned r ∧ Nm w' r (a + b) ∧ Below w.heap.size w w' := by
 obtain ⟨A, c, rfl, l0, g0, _⟩ := h0.open
 obtain ⟨A1, c1, rfl, l1, g1, _⟩ := h1.open
 have he := ev_radd (Num.wordsN a) (Num.wordsN b) (Num.wordsN_ok a) (Num.wordsN_ok b) (by unfold Fit at fa; omega) (by unfold Fit at fb; omega)
 rw [Num.wordsN_val, Num.wordsN_val] at he
 obtain ⟨k, hk⟩ := Ev.at he
 refine (bobbinref2_Add.calls k _ _ _ _ _ _ _ w g0 l0 g1 l1 hk).mono ?_
 rintro e w' ⟨v, rfl, h1, h2⟩
 exact ⟨v, rfl, Nm.of_R h1, h2⟩
theorem r_Bits (h0 : Nm w v a) (fa : Fit a) :
  Calls Tryz.prog 44 #[v] w fun e w' => e = .returned (.int .i64 (Num.bitsN a : Nat)) ∧ Below w.heap.size w w' := by
 obtain ⟨A, c, rfl, l0, g0, _⟩ := h0.open
 have he := ev_rbits (Num.wordsN a) (Num.wordsN_ok a) (by unfold Fit at fa; omega)
 rw [Num.wordsN_val] at he
 obtain ⟨k, hk⟩ := Ev.at he
 exact bobbinref2_Bits.calls k _ _ _ _ w g0 l0 hk
theorem r_Text (h0 : Nm w v a) (fa : Fit a) :
  Calls Tryz.prog 47 #[v] w fun e w' => e = .returned (.string ⟨(Num.textN a).toArray⟩) ∧ Below w.heap.size w w' := by
 obtain ⟨A, c, rfl, l0, g0, _⟩ := h0.open
 have he := ev_rtext (Num.wordsN a) (Num.wordsN_ok a) (by unfold Fit at fa; omega)
 rw [Num.wordsN_val] at he
 obtain ⟨k, hk⟩ := Ev.at he
 exact bobbinref2_Text.calls k _ _ _ _ w g0 l0 hk
theorem r_Norm {A : Option Addr} {c : Nat} {l : List Int} (hr : Kd.C (Kd.int .u32) w A l.length l) (hc : l.length ≤ c) (ok : Num.okW l) (hl : l.length ≤ 100000) :
  Calls Tryz.prog 99 #[.slice A l.length c] w fun e w' => ∃ r, e = .returned r ∧ Nm w' r (Num.valN l) ∧ Below w.heap.size w w' := by
 have he := ev_rnorm l (by omega)
 rw [Num.trim_words ok] at he
 obtain ⟨k, hk⟩ := Ev.at he
 refine (bobbinref2_Norm.calls k _ _ _ _ w hr hc hk).mono ?_
 rintro e w' ⟨v, rfl, h1, h2⟩
 exact ⟨v, rfl, Nm.of_R h1, h2⟩
theorem Ev.same {α : Type} {f : Nat → Option α} {x y : α} (h : Ev f x) (k : Ev f y) : x = y := by
 obtain ⟨K, hK⟩ := h
 obtain ⟨M, hM⟩ := k
 have h1 := hK (max K M) (Nat.le_max_left _ _)
 rw [hM (max K M) (Nat.le_max_right _ _)] at h1
 exact (Option.some.inj h1).symm
end
end Go.Proofs.YtdoeigngpemcgaaGreatDoor.Dec
namespace Go.Div
open Go.Proofs.YtdoeigngpemcgaaGreatDoor
def hi (l : List Int) (j : Nat) : Nat := Num.valN (l.drop j)
theorem hi_zero (l : List Int) : hi l 0 = Num.valN l := rfl
theorem hi_end (l : List Int) : hi l l.length = 0 := by
 unfold hi
 rw [List.drop_length]
 rfl
theorem hi_step {l : List Int} {i : Nat} (h : i < l.length) : hi l i = (l[i]).toNat + 4294967296 * hi l (i + 1) := by
 unfold hi
 rw [List.drop_eq_getElem_cons h]
 rfl
theorem hi_set {l : List Int} {i : Nat} (h : i < l.length) (y : Int) : hi (l.set i y) i = y.toNat + 4294967296 * hi l (i + 1) := by
 rw [hi_step (by rw [List.length_set]; exact h)]
 congr 1
 ·rw [List.getElem_set_self]
 ·unfold hi
  rw [List.drop_set_of_lt (by omega)]
theorem step_div {h w d : Nat} (hd : 0 < d) : (w + 4294967296 * h) / d = (h % d * 4294967296 + w) / d + 4294967296 * (h / d) ∧ (w + 4294967296 * h) % d = (h % d * 4294967296 + w) % d := by
 have e : w + 4294967296 * h = (h % d * 4294967296 + w) + d * (4294967296 * (h / d)) := by
  have := Nat.div_add_mod h d
  generalize h / d = q at *
  generalize h % d = r at *
  subst this
  rw [Nat.mul_add, Nat.mul_left_comm d]
  omega
 rw [e]
 exact ⟨Nat.add_mul_div_left _ _ hd, Nat.add_mul_mod_self_left _ _ _⟩
theorem step_lt {r w d : Nat} (hr : r < d) (hw : w < 4294967296) : (r * 4294967296 + w) / d < 4294967296 := by
 rw [Nat.div_lt_iff_lt_mul (by omega)]
 have : (r + 1) * 4294967296 ≤ d * 4294967296 := Nat.mul_le_mul_right _ hr
 rw [Nat.mul_comm 4294967296]
 omega
theorem valN_cons (x : Int) (t : List Int) : Num.valN (x :: t) = x.toNat + 4294967296 * Num.valN t := rfl
theorem valN_set {l : List Int} {i : Nat} (h : i < l.length) (y : Int) : Num.valN (l.set i y) + (l[i]).toNat * 4294967296 ^ i = Num.valN l + y.toNat * 4294967296 ^ i := by
 induction l generalizing i with
 | nil => exact absurd h (by simp)
 | cons x t ih =>
  cases i with
  | zero =>
   show Num.valN (y :: t) + x.toNat * 4294967296 ^ 0 = Num.valN (x :: t) + y.toNat * 4294967296 ^ 0
   rw [valN_cons, valN_cons, Nat.pow_zero]
   omega
  | succ i =>
   have hi : i < t.length := by simpa using h
   have := ih hi
   show Num.valN (x :: t.set i y) + (t[i]).toNat * 4294967296 ^ (i + 1) = Num.valN (x :: t) + y.toNat * 4294967296 ^ (i + 1)
   rw [valN_cons, valN_cons, Nat.pow_succ]
   generalize 4294967296 ^ i = p at *
   generalize Num.valN (t.set i y) = u at *
   generalize Num.valN t = v at *
   generalize (t[i]).toNat = a at *
   generalize y.toNat = b at *
   rw [← Nat.mul_assoc, ← Nat.mul_assoc, Nat.mul_comm (a * p), Nat.mul_comm (b * p)]
   omega
theorem valN_zeros (n : Nat) : Num.valN (List.replicate n 0) = 0 := by
 induction n with
 | zero => rfl
 | succ n ih => rw [List.replicate_succ, valN_cons, ih]; rfl
theorem valN_take {l : List Int} {i : Nat} (h : i < l.length) : Num.valN (l.take (i + 1)) = Num.valN (l.take i) + (l[i]).toNat * 4294967296 ^ i := by
 induction l generalizing i with
 | nil => exact absurd h (by simp)
 | cons x t ih =>
  cases i with
  | zero =>
   rw [List.take_succ_cons, List.take_zero, List.take_zero, valN_cons, Nat.pow_zero]
   show x.toNat + 4294967296 * 0 = 0 + x.toNat * 1
   omega
  | succ i =>
   have hi : i < t.length := by simpa using h
   have := ih hi
   rw [List.take_succ_cons, List.take_succ_cons, valN_cons, valN_cons, this]
   show _ = _ + (t[i]).toNat * 4294967296 ^ (i + 1)
   rw [Nat.pow_succ]
   generalize 4294967296 ^ i = p at *
   generalize (t[i]).toNat = a at *
   rw [← Nat.mul_assoc, Nat.mul_comm (a * p)]
   omega
theorem okW_set {l : List Int} (ok : Num.okW l) (i : Nat) {y : Int} (h : 0 ≤ y ∧ y < 4294967296) : Num.okW (l.set i y) := by
 intro x hx
 rcases List.mem_or_eq_of_mem_set hx with hx | rfl
 ·exact ok x hx
 ·exact h
theorem okW_zeros (n : Nat) : Num.okW (List.replicate n 0) := by
 intro x hx
 rw [List.eq_of_mem_replicate hx]
 decide
theorem get_nat {l : List Int} (ok : Num.okW l) {i : Nat} (h : i < l.length) : ((l[i]).toNat : Int) = l[i] ∧ (l[i]).toNat < 4294967296 := by
 have := ok _ (List.getElem_mem h)
 omega
end Go.Div
namespace Go.Proofs.YtdoeigngpemcgaaGreatDoor.Dec
open Go.RowKit Go.Div PNat Go.Proofs.YtdoeigngpemcgaaGreatDoor.Pure YtdoeigngpemcgaaGreatDoorW.PrintWords YtdoeigngpemcgaaGreatDoorW.PrintLast YtdoeigngpemcgaaGreatDoorW.PrintMore
theorem r_NormV {w : World} {v : Value} {l : List Int} (h : Kd.V (Kd.int .u32) 35 w 0 (fun _ => True) v l) (ok : Num.okW l) (hl : l.length ≤ 100000) :
  Calls Tryz.prog 99 #[v] w fun e w' => ∃ r, e = .returned r ∧ Nm w' r (Num.valN l) ∧ Below w.heap.size w w' := by
 obtain ⟨A, c, rfl⟩ := Kd.V_slice h
 obtain ⟨_, h2, h3⟩ := Kd.V_reads' h
 exact r_Norm h3 h2 ok hl
theorem V_of {w : World} {base : Nat} {v : Value} {l : List Int} (h : Kd.R (Kd.int .u32) 35 w base (fun _ => True) v l) : Kd.V (Kd.int .u32) 35 w 0 (fun _ => True) v l :=
 Kd.V_mono (Kd.V_map (Kd.R_V (base' := 0) h) (fun _ hf => hf)) (fun _ _ => trivial)
theorem last_word {v n : Nat} (h : (Num.wordsN v).length = n + 1) : ((Num.wordsN v)[n]'(by omega)) ≠ 0 := by
 intro e
 have h1 := Num.val_ge (Num.wordsN_ok v) (Num.wordsN_normed v) n h
 have h2 := valN_take (l := Num.wordsN v) (i := n) (by omega)
 rw [e, List.take_of_length_le (by omega)] at h2
 have h3 := Num.valN_lt (l := (Num.wordsN v).take n) (fun x hx => Num.wordsN_ok v x (List.mem_of_mem_take hx))
 rw [List.length_take, Nat.min_eq_left (by omega)] at h3
 have : (0 : Int).toNat * 4294967296 ^ n = 0 := by rw [Int.toNat_zero, Nat.zero_mul]
 omega
set_option maxRecDepth 100000 in
theorem r_trimmed {w : World} {v : Value} {a : Nat} (h : Nm w v a) : Calls Tryz.prog 101 #[v] w fun e w' => e = .returned v ∧ w' = w := by
 obtain ⟨A, c, rfl, hc, hC, _⟩ := h.open
 have hmx := Kd.C_max hC
 obtain ⟨n, hn⟩ : ∃ n, (Num.wordsN a).length = n := ⟨_, rfl⟩
 rw [hn] at hC hc hmx ⊢
 cases n with
 | zero =>
  clear hn hC h
  go_enter Tryz.func101, Tryz.ntmps101
  go_wp2
  go_loopg [3] 1 (fun kq v3 wr => v3 = .int .i64 0 ∧ wr = w)
  case atStart => exact ⟨rfl, rfl⟩
  case round =>
   obtain ⟨rfl, rfl⟩ := hrel
   go_wp2
   go_ret
   exact ⟨rfl, rfl⟩
 | succ n =>
  have hl := last_word hn
  obtain ⟨ad, hA, hz⟩ := Kd.at_int hC (n : Int) (by omega) (by omega)
  subst hA
  rw [Int.toNat_natCast] at hz
  have hrd : rd (Num.wordsN a) (n : Int) = (Num.wordsN a)[n]'(by omega) := by
   unfold rd
   rw [Int.toNat_natCast, List.getD_eq_getElem?_getD, List.getElem?_eq_getElem (by omega)]
   rfl
  rw [hrd] at hz
  obtain ⟨x, hx⟩ : ∃ x, (Num.wordsN a)[n]'(by omega) = x := ⟨_, rfl⟩
  rw [hx] at hz hl
  obtain ⟨N, hN⟩ : ∃ N : Nat, n + 1 = N := ⟨_, rfl⟩
  rw [hN] at hc hmx ⊢
  have c1 : (0 : Int) < (N : Int) := by omega
  have c2 : wrap64 ((N : Int) - 1) = (n : Int) := by rw [i64_id (by omega) (by omega)]; omega
  have c3 : IntKind.i64.wrap ((N : Int) - 1) = (n : Int) := (i64_w _).trans c2
  have c4 : (0 : Int) ≤ (n : Int) := by omega
  have c5 : (n : Int) < (N : Int) := by omega
  have c6 : (x == 0) = false := by rw [beq_eq_false_iff_ne]; exact hl
  have c7 : (0 : Int) ≤ (N : Int) := by omega
  have c8 : (N : Int) ≤ (c : Int) := by omega
  have c9 := decide_eq_true c1
  clear hn hC h hrd hx hN
  go_enter Tryz.func101, Tryz.ntmps101
  go_wp2
  go_loopg [3] 1 (fun kq v3 wr => v3 = .int .i64 (N : Int) ∧ wr = w)
  case atStart => exact ⟨rfl, rfl⟩
  case round =>
   obtain ⟨rfl, rfl⟩ := hrel
   go_wp2
   go_ret
   exact ⟨rfl, rfl⟩
set_option maxRecDepth 100000 in
theorem r_large {w : World} {v : Value} {a : Nat} (h : Nm w v a) (fa : Fit a) : Calls Tryz.prog 100 #[v] w fun e w' => e = .returned (.bool false) ∧ w' = w := by
 have HT := md_ (r_trimmed h)
 obtain ⟨A, c, rfl, _, _, _⟩ := h.open
 obtain ⟨n, hn⟩ : ∃ n, (Num.wordsN a).length = n := ⟨_, rfl⟩
 have hf : (Num.wordsN a).length ≤ 2000 := fa
 rw [hn] at hf HT
 rw [hn]
 have c1 := decide_eq_false (show ¬ (2000 : Int) < (n : Int) by omega)
 clear hn hf h fa
 go_enter Tryz.func100, Tryz.ntmps100
 go_wp2_with (go_at_call 101; (with_reducible refine HT.out.mono ?_); rintro e w' ⟨rfl, rfl⟩)
 go_ret
 exact ⟨rfl, rfl⟩
theorem wrp {x y : Int} (h : x = y ∧ -9223372036854775808 ≤ y ∧ y ≤ 9223372036854775807) : Aside0 (wrap64 x = y ∧ IntKind.i64.wrap x = y) :=
 have e : wrap64 x = y := by rw [h.1]; exact i64_id h.2.1 h.2.2
 ⟨e, (i64_w _).trans e⟩
end Go.Proofs.YtdoeigngpemcgaaGreatDoor.Dec
namespace Go.Div
open Go.Proofs.YtdoeigngpemcgaaGreatDoor
def MulA (la lb : List Int) (i : Nat) (o : List Int) : Prop :=
 o.length = la.length + lb.length ∧ Num.okW o ∧ Num.valN o = Num.valN (la.take i) * Num.valN lb ∧ ∀ j (h : j < o.length), i + lb.length ≤ j → o[j] = 0
def MulB (la lb : List Int) (p i k c : Nat) (o : List Int) : Prop :=
 o.length = la.length + lb.length ∧ Num.okW o ∧ c < 4294967296 ∧ Num.valN o + c * 4294967296 ^ (i + k) = Num.valN (la.take i) * Num.valN lb + p * 4294967296 ^ i * Num.valN (lb.take k) ∧ ∀ j (h : j < o.length), i + lb.length ≤ j → o[j] = 0
theorem mul_start (la lb : List Int) : MulA la lb 0 (List.replicate (la.length + lb.length) 0) := by
 refine ⟨List.length_replicate, okW_zeros _, ?_, fun j h _ => List.getElem_replicate _⟩
 rw [valN_zeros, List.take_zero]
 show 0 = 0 * _
 rw [Nat.zero_mul]
theorem mul_end {la lb o : List Int} (h : MulA la lb la.length o) : Num.valN o = Num.valN la * Num.valN lb := by
 rw [h.2.2.1, List.take_length]
theorem mul_in {la lb o : List Int} {i : Nat} (p : Nat) (h : MulA la lb i o) : MulB la lb p i 0 0 o := by
 refine ⟨h.1, h.2.1, by decide, ?_, h.2.2.2⟩
 rw [List.take_zero, h.2.2.1]
 show _ + 0 * _ = _ + _ * 0
 rw [Nat.zero_mul, Nat.mul_zero]
theorem mul_step {la lb o : List Int} {p i k c b z x : Nat} (hi : i < la.length) (hk : k < lb.length) (okb : Num.okW lb) (hp : p < 4294967296) (h : MulB la lb p i k c o) (hb : (lb[k]).toNat = b) (hz : ∀ h : i + k < o.length, (o[i + k]).toNat = z) (hx : c + p * b + z = x) :
  x < 18446744073709551616 ∧ MulB la lb p i (k + 1) (x / 4294967296) (o.set (i + k) ((x % 4294967296 : Nat) : Int)) := by
 obtain ⟨h1, h2, h3, h4, h5⟩ := h
 have i1 : i + k < o.length := by omega
 have hz' := hz i1
 have hzb : z < 4294967296 := by rw [← hz']; exact (get_nat h2 i1).2
 have hbb : b < 4294967296 := by rw [← hb]; exact (get_nat okb hk).2
 have hpb : p * b ≤ 4294967295 * 4294967295 := Nat.mul_le_mul (by omega) (by omega)
 have hxb : x < 18446744073709551616 := by omega
 refine ⟨hxb, by rw [List.length_set]; exact h1, okW_set h2 _ (by omega), by omega, ?_, fun j hj hlt => ?_⟩
 ·have e1 := valN_set i1 ((x % 4294967296 : Nat) : Int)
  rw [hz', Int.toNat_natCast] at e1
  rw [valN_take hk, hb, Nat.mul_add, ← Nat.add_assoc (Num.valN (la.take i) * Num.valN lb), ← h4, show i + (k + 1) = i + k + 1 by omega, Nat.pow_succ]
  have e3 : p * 4294967296 ^ i * (b * 4294967296 ^ k) = p * b * 4294967296 ^ (i + k) := by
   rw [Nat.pow_add]
   generalize 4294967296 ^ k = s
   generalize 4294967296 ^ i = t
   rw [Nat.mul_assoc, Nat.mul_assoc, Nat.mul_left_comm t b s]
  rw [e3]
  generalize 4294967296 ^ (i + k) = P at *
  have e4 : x * P = (x % 4294967296) * P + x / 4294967296 * (P * 4294967296) := by
   conv => lhs; rw [← Nat.mod_add_div x 4294967296, Nat.add_mul]
   congr 1
   rw [Nat.mul_comm 4294967296, Nat.mul_assoc, Nat.mul_comm 4294967296]
  have e5 : x * P = c * P + p * b * P + z * P := by rw [← hx, Nat.add_mul, Nat.add_mul]
  omega
 ·rw [List.length_set] at hj
  rw [List.getElem_set_ne (by omega)]
  exact h5 j hj hlt
theorem mul_out {la lb o : List Int} {p i c : Nat} (hi : i < la.length) (hp : (la[i]).toNat = p) (h : MulB la lb p i lb.length c o) : MulA la lb (i + 1) (o.set (i + lb.length) (c : Int)) := by
 obtain ⟨h1, h2, h3, h4, h5⟩ := h
 have i1 : i + lb.length < o.length := by omega
 refine ⟨by rw [List.length_set]; exact h1, okW_set h2 _ (by omega), ?_, fun j hj hlt => ?_⟩
 ·have e1 := valN_set i1 (c : Int)
  rw [h5 _ i1 (Nat.le_refl _), Int.toNat_zero, Nat.zero_mul, Nat.add_zero, Int.toNat_natCast] at e1
  rw [e1, h4, valN_take hi, hp, List.take_length, Nat.add_mul]
 ·rw [List.length_set] at hj
  rw [List.getElem_set_ne (by omega)]
  exact h5 j hj (by omega)
end Go.Div
namespace Go.Proofs.YtdoeigngpemcgaaGreatDoor.Dec
open Go.RowKit Go.Div PNat Go.Proofs.YtdoeigngpemcgaaGreatDoor.Pure YtdoeigngpemcgaaGreatDoorW.PrintWords YtdoeigngpemcgaaGreatDoorW.PrintLast YtdoeigngpemcgaaGreatDoorW.PrintMore
set_option maxRecDepth 100000 in
theorem r_Mul {w : World} {v u : Value} {a b : Nat} (h0 : Nm w v a) (h1 : Nm w u b) (fa : Fit a) (fb : Fit b) (hf : Fit (a * b)) :
  Calls Tryz.prog 80 #[v, u] w fun e w' => ∃ r, e = .returned (.tuple #[r, .int .i64 0]) ∧ Nm w' r (a * b) ∧ Below w.heap.size w w' := by
 have L0 := md_ (r_large h0 fa)
 have L1 := md_ (r_large h1 fb)
 have T0 := md_ (r_trimmed h0)
 have T1 := md_ (r_trimmed h1)
 obtain ⟨A, c, rfl, hlc, hC, _⟩ := h0.open
 obtain ⟨A1, cb, rfl, hlc1, hC1, _⟩ := h1.open
 obtain ⟨la, hla⟩ : ∃ l, Num.wordsN a = l := ⟨_, rfl⟩
 obtain ⟨lb, hlb⟩ : ∃ l, Num.wordsN b = l := ⟨_, rfl⟩
 have hok := Num.wordsN_ok a
 have hok1 := Num.wordsN_ok b
 have hval := Num.wordsN_val a
 have hval1 := Num.wordsN_val b
 have hlen : (Num.wordsN a).length ≤ 2000 := fa
 have hlen1 : (Num.wordsN b).length ≤ 2000 := fb
 rw [hla] at hC hlc hok hval hlen L0 T0
 rw [hlb] at hC1 hlc1 hok1 hval1 hlen1 L1 T1
 rw [hla, hlb]
 obtain ⟨n, hn⟩ : ∃ n, la.length = n := ⟨_, rfl⟩
 obtain ⟨m, hm⟩ : ∃ n, lb.length = n := ⟨_, rfl⟩
 rw [hn] at hC hlc hlen L0 T0
 rw [hm] at hC1 hlc1 hlen1 L1 T1
 rw [hn, hm]
 have HC := md_ hC
 have HC1 := md_ hC1
 have HOK := md_ hok
 have HOK1 := md_ hok1
 have HN := md_ (show (la.length = n ∧ n ≤ 2000) ∧ lb.length = m ∧ m ≤ 2000 from ⟨⟨hn, hlen⟩, hm, hlen1⟩)
 have HV := md_ (show Num.valN la = a ∧ Num.valN lb = b from ⟨hval, hval1⟩)
 have HF := md_ hf
 have HB := md_ (Below.refl w.heap.size w)
 obtain ⟨N, hN⟩ : ∃ z, n + m = z := ⟨_, rfl⟩
 have Z1 := wrp (x := (n : Int) + (m : Int)) (y := (N : Int)) (by omega)
 have HNN := md_ hN
 have o1 : (0 : Int) ≤ (N : Int) := by omega
 have o2 : ((N : Int)).toNat ≤ 70368744177664 := by omega
 have p1 := decide_eq_true o1
 have p2 := decide_eq_true o2
 have HS0 := mul_start la lb
 rw [hn, hm, hN] at HS0
 have HSS := md_ HS0
 clear h0 h1 fa fb hla hlb hok hok1 hval hval1 hlen hlen1 hn hm hlc hlc1 hC hC1 hf hN HS0
 obtain ⟨z3, z4⟩ := Z1.out
 clear Z1
 go_enter Tryz.func80, Tryz.ntmps80
 go_wp2_with (first
  | (go_at_call 100; (with_reducible refine L0.out.mono ?_); rintro e w' ⟨rfl, hw⟩; obtain rfl := hw.symm)
  | (go_at_call 100; (with_reducible refine L1.out.mono ?_); rintro e w' ⟨rfl, hw⟩; obtain rfl := hw.symm)
  | (go_at_call 101; (with_reducible refine T0.out.mono ?_); rintro e w' ⟨rfl, hw⟩; obtain rfl := hw.symm)
  | (go_at_call 101; (with_reducible refine T1.out.mono ?_); rintro e w' ⟨rfl, hw⟩; obtain rfl := hw.symm)
  | ((with_reducible refine gate_dst (N := 25) rfl ?_); refine Kd.R_make (Kd.int .u32) _ 35 rfl (N := 25) rfl 58 _ _ rfl (N : Int) rfl rfl Tryz.underlying58 (.int .u32 0) 4 info35 rfl (by decide) (by omega) 0 (ok := fun _ => True) (okp := fun _ => True) rfl (fun _ hk => hk) trivial o1 (Nat.le_trans (Nat.mul_le_mul_right _ o2) (by omega)) (Below.refl _ _) (Nat.le_refl _) ?_; intro vq wq ho hb hg_ hnew_; clear hg_ hnew_; have HO := md_ (Kd.R_lower ho (below_size HB.out)); have n1_ := md_ (below_step HB.out hb); clear HB; have HB := n1_; clear n1_; clear hb ho))
 rw [Int.toNat_natCast] at HO
 go_loopg [7] n (fun kq v7 wr => ∃ (i : Nat) (x : List Int), v7 = .int .i64 (i : Int) ∧ Aside0 (i + kq = n) ∧ Aside0 (MulA la lb i x) ∧ Aside0 (Kd.R (Kd.int .u32) 35 wr w.heap.size (fun _ => True) vq x) ∧ Aside0 (Below w.heap.size w wr))
 case atStart => exact ⟨0, List.replicate N 0, rfl, ⟨Nat.zero_add n⟩, HSS, HO, HB⟩
 case round =>
  clear HO HB HSS
  obtain ⟨i, x, rfl, HK, HS, HO, HB⟩ := hrel
  cases gk with
  | zero =>
   have hk : i = n := HK.out
   subst hk
   have hvx : Num.valN x = a * b := by
    have h := HS.out
    rw [← HN.out.1.1] at h
    rw [mul_end h, HV.out.1, HV.out.2]
   have HN1 := md_ (fun (wq : World) (hx : Kd.R (Kd.int .u32) 35 wq w.heap.size (fun _ => True) vq x) => r_NormV (V_of hx) HS.out.2.1 (by have := HS.out.1; have := HN.out; omega))
   rw [hvx] at HN1
   have x5 := decide_eq_false (show ¬ (i : Int) < (i : Int) by omega)
   obtain ⟨L, hL⟩ : ∃ z, (Num.wordsN (a * b)).length = z := ⟨_, rfl⟩
   have hL2 := HF.out
   unfold Fit at hL2
   have HL := md_ hL
   rw [hL] at hL2
   have x6 := decide_eq_false (show ¬ (2000 : Int) < (L : Int) by omega)
   clear hvx hL hL2
   go_wp2_with (go_at_call 99; (with_reducible refine (HN1.out _ HO.out).mono ?_); rintro e w' ⟨q1, rfl, hr, hb⟩; obtain ⟨Aq, cq, haq, -, -, -⟩ := hr.open; rw [HL.out] at haq; subst haq; have hq1 := md_ hr; replace HB := bt_ HB hb; clear hb hr)
   go_ret2
   exact ⟨_, rfl, hq1.out, HB.out⟩
  | succ j =>
   have hin : i < n := by have := HK.out; omega
   have hil : i < la.length := by have := HN.out.1.1; omega
   have hnl := HN.out
   obtain ⟨g7, g8⟩ := get_nat HOK.out hil
   obtain ⟨wi, hwi⟩ : ∃ z : Nat, (la[i]).toNat = z := ⟨_, rfl⟩
   rw [hwi] at g7 g8
   obtain ⟨ad, hA, hz0⟩ := Kd.at_int HC.out (i : Int) (by omega) (by omega)
   subst hA
   have hrd : rd la (i : Int) = (wi : Int) := by
    unfold rd
    rw [Int.toNat_natCast, List.getD_eq_getElem?_getD, List.getElem?_eq_getElem hil]
    exact g7.symm
   rw [hrd, Int.toNat_natCast] at hz0
   have HZ0 := md_ hz0
   have c1 : (0 : Int) ≤ (i : Int) := by omega
   have c2 : (i : Int) < (n : Int) := by omega
   have HI := md_ (show i < n ∧ i + 1 + j = n ∧ wi < 4294967296 by have := HK.out; omega)
   have HWI := md_ (show ∀ h : i < la.length, (la[i]).toNat = wi from fun _ => hwi)
   have HM0 := md_ (mul_in wi HS.out)
   have c3 := decide_eq_true c2
   clear hin hil hnl g7 g8 hwi hz0 hrd HK HS
   go_wp2
   go_loopg [8, 9] m (fun kq v8 v9 w2 => ∃ (k c : Nat) (y : List Int), v8 = .int .u64 (c : Int) ∧ v9 = .int .i64 (k : Int) ∧ Aside0 (k + kq = m) ∧ Aside0 (MulB la lb wi i k c y) ∧ Aside0 (Kd.R (Kd.int .u32) 35 w2 w.heap.size (fun _ => True) vq y) ∧ Aside0 (Below w.heap.size w w2))
   case atStart => exact ⟨0, 0, x, rfl, rfl, ⟨Nat.zero_add m⟩, HM0, HO, HB⟩
   case round =>
    clear HO HB HM0 c3
    obtain ⟨k, cr, y, rfl, rfl, HK, HS, HO, HB⟩ := hrel
    cases gk with
    | zero =>
     have hk : k = m := HK.out
     subst hk
     have hnl := HN.out
     have hii := HI.out
     have hlb := HN.out.2.1
     have hss := HS.out
     rw [← hlb] at hss
     have hst := mul_out (la := la) (lb := lb) (i := i) (by omega) (HWI.out (by omega)) hss
     rw [hlb] at hst
     obtain ⟨go, co, rfl, gb, gl, cl, HG⟩ := Kd.R_form HO.out (by have := HS.out.1; omega)
     obtain ⟨K, hK⟩ : ∃ z, i + k = z := ⟨_, rfl⟩
     rw [hK] at hst
     have hyl := HS.out.1
     obtain ⟨hx, hf⟩ := Kd.R_celln 0 HO.out (K : Int) (by omega) (by omega)
     rw [Int.toNat_natCast] at hx hf
     have W1 := wrp (x := (i : Int) + (k : Int)) (y := (K : Int)) (by omega)
     have W3 := wrp (x := (i : Int) + 1) (y := ((i + 1 : Nat) : Int)) (by omega)
     have x5 := decide_eq_false (show ¬ (k : Int) < (k : Int) by omega)
     have c3 : (0 : Int) ≤ (K : Int) := by omega
     have c4 : (K : Int) < (y.length : Int) := by omega
     have hcr := HS.out.2.2.1
     obtain ⟨cv, hcv⟩ : ∃ y : Int, (cr : Int) = y := ⟨_, rfl⟩
     rw [hcv] at hst
     have e1 : IntKind.u32.wrap cv = cv := by rw [IntKind.wrap_u32]; omega
     have e2 : cv % 4294967296 = cv := by omega
     have HP := md_ (Kd.R_putg HO.out (K : Int) cv)
     rw [Int.toNat_natCast] at HP
     have GB := md_ gb
     have HST := md_ hst
     rw [hcv]
     clear hnl hii hlb hss hst gb gl cl HG hK hyl hcr hcv HS HK
     obtain ⟨w1, w2⟩ := W1.out
     obtain ⟨w5, w6⟩ := W3.out
     clear W1 W3
     go_wp2
     go_roundg j
     case measure => omega
     case rel => exact ⟨i + 1, y.set K cv, by first | rfl | rw [w5] | rw [w6], ⟨HI.out.2.1⟩, HST, ⟨HP.out.1⟩, ⟨below_set HB.out GB.out⟩⟩
    | succ g =>
     have hkk := HK.out
     have hnl := HN.out
     have hii := HI.out
     have hkl : k < lb.length := by omega
     obtain ⟨g7, g8⟩ := get_nat HOK1.out hkl
     obtain ⟨bi, hbi⟩ : ∃ z : Nat, (lb[k]).toNat = z := ⟨_, rfl⟩
     rw [hbi] at g7 g8
     obtain ⟨ad1, hA1, hz1⟩ := Kd.at_int HC1.out (k : Int) (by omega) (by omega)
     subst hA1
     have hrd : rd lb (k : Int) = (bi : Int) := by
      unfold rd
      rw [Int.toNat_natCast, List.getD_eq_getElem?_getD, List.getElem?_eq_getElem hkl]
      exact g7.symm
     rw [hrd, Int.toNat_natCast] at hz1
     have hz := pw_cell_below HB.out HZ0.out
     have hy := pw_cell_below HB.out hz1
     have hyl := HS.out.1
     have i1 : i + k < y.length := by omega
     obtain ⟨z, hzz⟩ : ∃ z : Nat, (y[i + k]).toNat = z := ⟨_, rfl⟩
     obtain ⟨g1, g2⟩ := get_nat HS.out.2.1 i1
     rw [hzz] at g1 g2
     obtain ⟨X, hX⟩ : ∃ r : Nat, cr + wi * bi + z = r := ⟨_, rfl⟩
     obtain ⟨s1, hst⟩ := mul_step (by omega) hkl HOK1.out hii.2.2 HS.out hbi (fun _ => hzz) hX
     obtain ⟨go, co, rfl, gb, gl, cl, HG⟩ := Kd.R_form HO.out (by omega)
     obtain ⟨hx, _⟩ := Kd.R_celln 0 HO.out ((i + k : Nat) : Int) (by omega) (by omega)
     have hr0 : rdOf 0 y ((i + k : Nat) : Int) = (z : Int) := by
      unfold rdOf
      rw [Int.toNat_natCast, List.getD_eq_getElem?_getD, List.getElem?_eq_getElem i1]
      exact g1.symm
     rw [hr0] at hx
     rw [Int.toNat_natCast] at hx
     obtain ⟨K, hK⟩ : ∃ z, i + k = z := ⟨_, rfl⟩
     rw [hK] at hx hst i1
     have W1 := wrp (x := (i : Int) + (k : Int)) (y := (K : Int)) (by omega)
     have W3 := wrp (x := (k : Int) + 1) (y := ((k + 1 : Nat) : Int)) (by omega)
     have hpb : wi * bi < 18446744073709551616 := by omega
     have hpc : cr + wi * bi < 18446744073709551616 := by omega
     obtain ⟨pv, hpv⟩ : ∃ y : Int, ((wi * bi : Nat) : Int) = y := ⟨_, rfl⟩
     obtain ⟨p2v, hp2v⟩ : ∃ y : Int, ((cr + wi * bi : Nat) : Int) = y := ⟨_, rfl⟩
     obtain ⟨Xv, hXv⟩ : ∃ y : Int, (X : Int) = y := ⟨_, rfl⟩
     obtain ⟨yl, hyl2⟩ : ∃ y : Int, ((X % 4294967296 : Nat) : Int) = y := ⟨_, rfl⟩
     obtain ⟨yh, hyh⟩ : ∃ y : Int, ((X / 4294967296 : Nat) : Int) = y := ⟨_, rfl⟩
     obtain ⟨wv, hwv⟩ : ∃ y : Int, (wi : Int) = y := ⟨_, rfl⟩
     obtain ⟨bv, hbv⟩ : ∃ y : Int, (bi : Int) = y := ⟨_, rfl⟩
     obtain ⟨cv, hcv⟩ : ∃ y : Int, (cr : Int) = y := ⟨_, rfl⟩
     obtain ⟨zv, hzv⟩ : ∃ y : Int, (z : Int) = y := ⟨_, rfl⟩
     have m1 : wv * bv = pv := by rw [← hwv, ← hbv, ← hpv, Int.natCast_mul]
     have e1 : IntKind.u64.wrap wv = wv := by rw [IntKind.wrap_u64]; omega
     have e2 : IntKind.u64.wrap bv = bv := by rw [IntKind.wrap_u64]; omega
     have e3 : IntKind.u64.wrap (wv * bv) = pv := by rw [m1, IntKind.wrap_u64]; omega
     have e4 : IntKind.u64.wrap (cv + pv) = p2v := by rw [IntKind.wrap_u64]; omega
     have e5 : IntKind.u64.wrap zv = zv := by rw [IntKind.wrap_u64]; omega
     have e6 : IntKind.u64.wrap (p2v + zv) = Xv := by rw [IntKind.wrap_u64]; omega
     have e7 : IntKind.u32.wrap Xv = yl := by rw [IntKind.wrap_u32]; omega
     have e8 : Xv % 4294967296 = yl := by omega
     have e9 : Xv / 4294967296 = yh := by omega
     rw [hyl2] at hst
     rw [hwv] at hz
     rw [hbv] at hy
     rw [hzv] at hx
     rw [hcv]
     have c3 : (0 : Int) ≤ (K : Int) := by omega
     have c4 : (K : Int) < (y.length : Int) := by omega
     have c5 : (0 : Int) ≤ (k : Int) := by omega
     have c6 : (k : Int) < (m : Int) := by omega
     have c7 := decide_eq_true c6
     have GB := md_ gb
     have HST := md_ hst
     have HK2 := md_ (show k + 1 + g = m by omega)
     have HYH := md_ hyh
     clear hkk hnl hii hkl g7 g8 hbi hz1 hrd hyl i1 hzz g1 g2 hX s1 hst gb gl cl HG hr0 hK hpb hpc hpv hp2v hXv hyl2 hyh hwv hbv hcv hzv m1 HK HS
     obtain ⟨w1, w2⟩ := W1.out
     obtain ⟨w5, w6⟩ := W3.out
     clear W1 W3
     go_upto_region 13 with (fail)
     go_quiet (fail)
     generalize hW : World.drewN _ _ = w6
     have HO6 := Kd.R_drewN HO.out
     replace HO := md_ (show Kd.R (Kd.int .u32) 35 w6 w.heap.size (fun _ => True) (.slice (some ⟨go, 0, none⟩) y.length co) y by rw [← hW]; exact HO6 _)
     replace HB := md_ (show Below w.heap.size w w6 by rw [← hW]; exact pw_below_drewN HB.out _)
     clear HO6 hW hx
     obtain ⟨hx, hf⟩ := Kd.R_celln 0 HO.out (K : Int) c3 c4
     rw [Int.toNat_natCast] at hx hf
     have HP := md_ (Kd.R_putg HO.out (K : Int) yl)
     rw [Int.toNat_natCast] at HP
     go_wp2
     go_roundg g
     case measure => omega
     case rel => exact ⟨k + 1, X / 4294967296, y.set K yl, by rw [HYH.out], by first | rfl | rw [w5] | rw [w6], HK2, HST, ⟨HP.out.1⟩, ⟨below_set HB.out GB.out⟩⟩
end Go.Proofs.YtdoeigngpemcgaaGreatDoor.Dec
namespace Go.Div
open Go.Proofs.YtdoeigngpemcgaaGreatDoor
def Shl (la : List Int) (q r k : Nat) (o : List Int) : Prop :=
 o.length = la.length + q + 1 ∧ Num.okW o ∧ Num.valN o = Num.valN (la.take k) * 2 ^ (32 * q + r) ∧ (∀ h : k + q < o.length, (o[k + q]).toNat < 2 ^ r) ∧ ∀ j (h : j < o.length), k + q < j → o[j] = 0
theorem shl_start (la : List Int) (q r : Nat) : Shl la q r 0 (List.replicate (la.length + q + 1) 0) := by
 refine ⟨List.length_replicate, okW_zeros _, ?_, fun h => ?_, fun j h _ => List.getElem_replicate _⟩
 ·rw [valN_zeros, List.take_zero]
  show 0 = 0 * _
  rw [Nat.zero_mul]
 ·rw [List.getElem_replicate]
  exact Nat.two_pow_pos r
theorem shl_end {la o : List Int} {q r : Nat} (h : Shl la q r la.length o) : Num.valN o = Num.valN la * 2 ^ (32 * q + r) := by
 rw [h.2.2.1, List.take_length]
theorem pow32 (q : Nat) : (2 : Nat) ^ (32 * q) = 4294967296 ^ q := by
 rw [Nat.pow_mul]
theorem shl_low {x r : Nat} (hr : r ≤ 32) : x * 2 ^ r % 4294967296 % 2 ^ r = 0 := by
 have h : (4294967296 : Nat) = 2 ^ r * 2 ^ (32 - r) := by rw [← Nat.pow_add, show r + (32 - r) = 32 by omega]
 rw [h, Nat.mod_mul_right_mod, Nat.mul_mod_left]
theorem shl_fit {a b r : Nat} (hr : r ≤ 32) (ha : a < 2 ^ r) (hb : b < 4294967296) (h0 : b % 2 ^ r = 0) : a + b < 4294967296 := by
 have h : (4294967296 : Nat) = 2 ^ r * 2 ^ (32 - r) := by rw [← Nat.pow_add, show r + (32 - r) = 32 by omega]
 have e : b = 2 ^ r * (b / 2 ^ r) := by have := Nat.div_add_mod b (2 ^ r); omega
 have hq : b / 2 ^ r < 2 ^ (32 - r) := by
  rw [Nat.div_lt_iff_lt_mul (Nat.two_pow_pos r), Nat.mul_comm]
  omega
 have h2 : 2 ^ r * (b / 2 ^ r + 1) ≤ 2 ^ r * 2 ^ (32 - r) := Nat.mul_le_mul_left _ hq
 rw [Nat.mul_add] at h2
 omega
theorem shl_step {la o : List Int} {q r k : Nat} (hk : k < la.length) (okl : Num.okW la) (hr : r < 32) (h : Shl la q r k o) {x z : Nat} (hx : (la[k]).toNat * 2 ^ r = x) (hz : ∀ h : k + q < o.length, (o[k + q]).toNat = z) :
  z + x % 4294967296 < 4294967296 ∧ x / 4294967296 < 4294967296 ∧ z < 2 ^ r ∧ Shl la q r (k + 1) ((o.set (k + q) ((z + x % 4294967296 : Nat) : Int)).set (k + q + 1) ((x / 4294967296 : Nat) : Int)) := by
 obtain ⟨h1, h2, h3, h4, h5⟩ := h
 have i1 : k + q < o.length := by omega
 have i2 : k + q + 1 < o.length := by omega
 have hz' := hz i1
 have h4' := h4 i1
 rw [hz'] at h4'
 have hw : (la[k]).toNat < 4294967296 := (get_nat okl hk).2
 have hx2 : x < 4294967296 * 2 ^ r := by
  rw [← hx]
  exact Nat.mul_lt_mul_of_pos_right hw (Nat.two_pow_pos r)
 have hxr : x / 4294967296 < 2 ^ r := by
  rw [Nat.div_lt_iff_lt_mul (by decide), Nat.mul_comm]
  exact hx2
 have hp : 2 ^ r ≤ 4294967296 := Nat.pow_le_pow_right (i := r) (j := 32) (by decide) (by omega)
 have hlow : z + x % 4294967296 < 4294967296 := shl_fit (by omega) h4' (Nat.mod_lt _ (by decide)) (by rw [← hx]; exact shl_low (by omega))
 refine ⟨hlow, by omega, h4', by rw [List.length_set, List.length_set]; exact h1, okW_set (okW_set h2 _ (by omega)) _ (by omega), ?_, fun _ => ?_, fun j hj hlt => ?_⟩
 ·have e1 := valN_set i1 ((z + x % 4294967296 : Nat) : Int)
  have e2 := valN_set (l := o.set (k + q) ((z + x % 4294967296 : Nat) : Int)) (i := k + q + 1) (by rw [List.length_set]; exact i2) ((x / 4294967296 : Nat) : Int)
  rw [List.getElem_set_ne (by omega), h5 _ i2 (by omega), Int.toNat_zero, Nat.zero_mul, Nat.add_zero] at e2
  rw [hz'] at e1
  rw [e2, valN_take hk, Nat.add_mul, ← h3, Nat.pow_add 2, pow32]
  have e3 : (la[k]).toNat * 4294967296 ^ k * (4294967296 ^ q * 2 ^ r) = x * 4294967296 ^ (k + q) := by
   rw [← hx, Nat.pow_add]
   generalize 4294967296 ^ k = p
   generalize 4294967296 ^ q = s
   generalize 2 ^ r = t
   generalize (la[k]).toNat = u
   rw [Nat.mul_assoc, Nat.mul_assoc, Nat.mul_comm s t, Nat.mul_left_comm p t s]
  rw [e3, Nat.pow_succ]
  rw [Int.toNat_natCast] at e1 ⊢
  generalize hB : 4294967296 ^ (k + q) = P at *
  have e4 : x * P = (x % 4294967296) * P + x / 4294967296 * (P * 4294967296) := by
   conv => lhs; rw [← Nat.mod_add_div x 4294967296, Nat.add_mul]
   congr 1
   rw [Nat.mul_comm 4294967296, Nat.mul_assoc, Nat.mul_comm 4294967296]
  rw [Nat.add_mul] at e1
  omega
 ·have ek : k + 1 + q = k + q + 1 := by omega
  simp only [ek, List.getElem_set_self, Int.toNat_natCast]
  exact hxr
 ·rw [List.length_set, List.length_set] at hj
  rw [List.getElem_set_ne (by omega), List.getElem_set_ne (by omega)]
  exact h5 j hj (by omega)
theorem hi_div {l : List Int} (ok : Num.okW l) (j : Nat) : Num.valN l / 4294967296 ^ j = hi l j := by
 induction j generalizing l with
 | zero => rw [Nat.pow_zero, Nat.div_one]; rfl
 | succ j ih =>
  cases l with
  | nil => exact Nat.zero_div _
  | cons x t =>
   have hx := ok x (List.mem_cons_self ..)
   rw [Nat.pow_succ, Nat.mul_comm, ← Nat.div_div_eq_div_mul, valN_cons, Nat.add_mul_div_left _ _ (by decide), Nat.div_eq_of_lt (a := x.toNat) (by omega), Nat.zero_add, ih (fun y hy => ok y (List.mem_cons_of_mem _ hy))]
   rfl
def Shr (la : List Int) (q r k : Nat) (o : List Int) : Prop :=
 o.length = k ∧ Num.okW o ∧ Num.valN o = Num.valN la / 2 ^ (32 * q + r) % 4294967296 ^ k
theorem shr_start (la : List Int) (q r : Nat) : Shr la q r 0 [] := by
 refine ⟨rfl, fun x h => ?_, ?_⟩
 ·cases h
 ·rw [Nat.pow_zero, Nat.mod_one]; rfl
theorem shr_val {la : List Int} (ok : Num.okW la) (q r k : Nat) : Num.valN la / 2 ^ (32 * q + r) / 4294967296 ^ k = hi la (q + k) / 2 ^ r := by
 rw [← hi_div ok, Nat.pow_add, pow32, Nat.div_div_eq_div_mul, Nat.div_div_eq_div_mul, Nat.pow_add]
 congr 1
 rw [Nat.mul_assoc, Nat.mul_assoc, Nat.mul_comm (2 ^ r)]
theorem shr_cut (h : Nat) {r : Nat} (hr : r ≤ 32) : h % (4294967296 * 4294967296) / 2 ^ r % 4294967296 = h / 2 ^ r % 4294967296 := by
 have e : (4294967296 : Nat) * 4294967296 = 2 ^ r * (4294967296 * 2 ^ (32 - r)) := by
  rw [Nat.mul_left_comm, ← Nat.pow_add, show r + (32 - r) = 32 by omega]
 rw [e, Nat.mod_mul_right_div_self, Nat.mod_mul_right_mod]
theorem shr_end {la o : List Int} (ok : Num.okW la) {q r k : Nat} (h : Shr la q r k o) (hk : la.length ≤ q + k) : Num.valN o = Num.valN la / 2 ^ (32 * q + r) := by
 rw [h.2.2]
 refine Nat.mod_eq_of_lt ?_
 rw [← Nat.div_eq_zero_iff_lt (Nat.pow_pos (by decide)), shr_val ok]
 have : hi la (q + k) = 0 := by unfold hi; rw [List.drop_of_length_le hk]; rfl
 rw [this, Nat.zero_div]
theorem shr_step {la o : List Int} (ok : Num.okW la) {q r k : Nat} (hr : r ≤ 32) (h : Shr la q r k o) {x : Nat} (hx : hi la (q + k) % (4294967296 * 4294967296) = x) :
  Shr la q r (k + 1) (o ++ [((x / 2 ^ r % 4294967296 : Nat) : Int)]) := by
 obtain ⟨h1, h2, h3⟩ := h
 refine ⟨by rw [List.length_append, h1]; rfl, ?_, ?_⟩
 ·intro z hz
  rcases List.mem_append.1 hz with g | g
  ·exact h2 z g
  ·rw [List.mem_singleton.1 g]
   omega
 ·rw [Num.val_snoc, h1, h3, Nat.pow_succ, Nat.mod_mul, shr_val ok, Int.toNat_natCast, ← hx, shr_cut _ hr]
theorem two_words {la : List Int} (ok : Num.okW la) {j : Nat} (h : j < la.length) : hi la j % (4294967296 * 4294967296) = (la[j]).toNat + 4294967296 * ((la[j + 1]?.getD 0).toNat) := by
 have g := (get_nat ok h).2
 rw [hi_step h, Nat.mod_mul]
 rw [Nat.add_mul_mod_self_left, Nat.mod_eq_of_lt g, Nat.add_mul_div_left _ _ (by decide), Nat.div_eq_of_lt g, Nat.zero_add]
 congr 2
 rcases Nat.lt_or_ge (j + 1) la.length with c | c
 ·rw [hi_step c, Nat.add_mul_mod_self_left, List.getElem?_eq_getElem c]
  exact Nat.mod_eq_of_lt (get_nat ok c).2
 ·rw [List.getElem?_eq_none c]
  unfold hi
  rw [List.drop_of_length_le c]
  rfl
end Go.Div
namespace Go.Div
open Go.Proofs.YtdoeigngpemcgaaGreatDoor Go.Proofs.YtdoeigngpemcgaaGreatDoor.Dec
theorem hi_less {la lb : List Int} (oka : Num.okW la) (okb : Num.okW lb) {i : Nat} (ha : i < la.length) (hb : i < lb.length) (h : hi la (i + 1) = hi lb (i + 1)) (hlt : (la[i]).toNat < (lb[i]).toNat) : Num.valN la < Num.valN lb := by
 have h1 : hi la i < hi lb i := by rw [hi_step ha, hi_step hb, h]; omega
 rw [← hi_div oka, ← hi_div okb] at h1
 rcases Nat.lt_or_ge (Num.valN la) (Num.valN lb) with c | c
 ·exact c
 ·have := Nat.div_le_div_right (c := 4294967296 ^ i) c
  omega
theorem len_less {a b : Nat} (h : (Num.wordsN a).length < (Num.wordsN b).length) : a < b := by
 rcases Nat.lt_or_ge a b with c | c
 ·exact c
 ·have := len_le (Nat.le_refl _) c
  omega
theorem cmp_lt {a b : Nat} (h : a < b) : Num.cmpN a b = -1 := by unfold Num.cmpN; rw [if_pos h]
theorem cmp_gt {a b : Nat} (h : b < a) : Num.cmpN a b = 1 := by unfold Num.cmpN; rw [if_neg (by omega), if_pos h]
theorem cmp_eq (a : Nat) : Num.cmpN a a = 0 := by unfold Num.cmpN; rw [if_neg (by omega), if_neg (by omega)]
end Go.Div
namespace Go.Proofs.YtdoeigngpemcgaaGreatDoor.Dec
open Go.RowKit Go.Div PNat Go.Proofs.YtdoeigngpemcgaaGreatDoor.Pure YtdoeigngpemcgaaGreatDoorW.PrintWords YtdoeigngpemcgaaGreatDoorW.PrintLast YtdoeigngpemcgaaGreatDoorW.PrintMore
set_option maxRecDepth 100000 in
theorem r_Compare {w : World} {v u : Value} {a b : Nat} (h0 : Nm w v a) (h1 : Nm w u b) (fa : Fit a) (fb : Fit b) :
  Calls Tryz.prog 102 #[v, u] w fun e w' => e = .returned (.int .i64 (Num.cmpN a b)) ∧ Below w.heap.size w w' := by
 have T0 := md_ (r_trimmed h0)
 have T1 := md_ (r_trimmed h1)
 obtain ⟨A, c, rfl, hlc, hC, _⟩ := h0.open
 obtain ⟨A1, cb, rfl, hlc1, hC1, _⟩ := h1.open
 have hlt := @len_less a b
 have hgt := @len_less b a
 obtain ⟨la, hla⟩ : ∃ l, Num.wordsN a = l := ⟨_, rfl⟩
 obtain ⟨lb, hlb⟩ : ∃ l, Num.wordsN b = l := ⟨_, rfl⟩
 have hok := Num.wordsN_ok a
 have hok1 := Num.wordsN_ok b
 have hval := Num.wordsN_val a
 have hval1 := Num.wordsN_val b
 have hlen : (Num.wordsN a).length ≤ 2000 := fa
 have hlen1 : (Num.wordsN b).length ≤ 2000 := fb
 rw [hla] at hC hok hval hlen T0 hlt hgt
 rw [hlb] at hC1 hok1 hval1 hlen1 T1 hlt hgt
 rw [hla, hlb]
 obtain ⟨n, hn⟩ : ∃ n, la.length = n := ⟨_, rfl⟩
 obtain ⟨m, hm⟩ : ∃ n, lb.length = n := ⟨_, rfl⟩
 rw [hn] at hC hlen T0 hlt hgt
 rw [hm] at hC1 hlen1 T1 hlt hgt
 rw [hn, hm]
 rcases Nat.lt_trichotomy n m with c0 | c0 | c0
 ·have k1 : ((n : Int) == (m : Int)) = false := by rw [beq_eq_false_iff_ne]; omega
  have k2 : ¬ n = m := by omega
  have k3 := decide_eq_true c0
  rw [cmp_lt (hlt c0)]
  clear h0 h1 hlc hlc1 hC hC1 hlt hgt hla hlb hok hok1 hval hval1 hlen hlen1 hn hm
  go_enter Tryz.func102, Tryz.ntmps102
  go_wp2_with (first
  | (go_at_call 101; (with_reducible refine T0.out.mono ?_); rintro e w' ⟨rfl, hw⟩; obtain rfl := hw.symm)
  | (go_at_call 101; (with_reducible refine T1.out.mono ?_); rintro e w' ⟨rfl, hw⟩; obtain rfl := hw.symm))
  go_ret
  exact ⟨rfl, Below.refl _ _⟩
 ·subst c0
  have HC := md_ hC
  have HC1 := md_ hC1
  have HOK := md_ (show Num.okW la ∧ Num.okW lb from ⟨hok, hok1⟩)
  have HN := md_ (show la.length = n ∧ lb.length = n ∧ n ≤ 2000 from ⟨hn, hm, hlen⟩)
  have HV := md_ (show Num.valN la = a ∧ Num.valN lb = b from ⟨hval, hval1⟩)
  have hst : hi la n = hi lb n := by
   have e1 := hi_end la
   have e2 := hi_end lb
   rw [hn] at e1
   rw [hm] at e2
   rw [e1, e2]
  have HST := md_ hst
  have HB := md_ (Below.refl w.heap.size w)
  obtain ⟨cc, hcc⟩ : ∃ z, Num.cmpN a b = z := ⟨_, rfl⟩
  have HCC := md_ hcc
  rw [hcc]
  have Z1 := wrp (x := (n : Int) - 1) (y := (n : Int) - 1) (by omega)
  obtain ⟨z1, z2⟩ := Z1.out
  clear h0 h1 hlc hlc1 hC hC1 hlt hgt hla hlb hok hok1 hval hval1 hlen hlen1 hn hm fa fb hst hcc Z1
  go_enter Tryz.func102, Tryz.ntmps102
  go_wp2_with (first
  | (go_at_call 101; (with_reducible refine T0.out.mono ?_); rintro e w' ⟨rfl, hw⟩; obtain rfl := hw.symm)
  | (go_at_call 101; (with_reducible refine T1.out.mono ?_); rintro e w' ⟨rfl, hw⟩; obtain rfl := hw.symm))
  go_loopg [5] n (fun kq v5 wr => v5 = .int .i64 ((kq : Int) - 1) ∧ Aside0 (kq ≤ n ∧ hi la kq = hi lb kq) ∧ Aside0 (Below w.heap.size w wr))
  case atStart => exact ⟨by first | rfl | rw [z1] | rw [z2], ⟨Nat.le_refl n, HST.out⟩, HB⟩
  case round =>
   clear HST z1 z2 HB
   obtain ⟨h8, HI, HB⟩ := hrel
   cases gk with
   | zero =>
    rw [show ((0 : Nat) : Int) - 1 = -1 from rfl] at h8
    subst h8
    have hab : a = b := by
     have h := HI.out.2
     rw [hi_zero, hi_zero, HV.out.1, HV.out.2] at h
     exact h
    have hc : cc = 0 := by rw [← HCC.out, hab]; exact cmp_eq b
    clear hab
    go_wp2
    go_ret
    exact ⟨by subst hc; rfl, HB.out⟩
   | succ i =>
    rw [show ((i + 1 : Nat) : Int) - 1 = (i : Int) by omega] at h8
    subst h8
    have hn := HN.out
    have hi := HI.out
    have hia : i < la.length := by omega
    have hib : i < lb.length := by omega
    obtain ⟨g1, g2⟩ := get_nat HOK.out.1 hia
    obtain ⟨g3, g4⟩ := get_nat HOK.out.2 hib
    have k1 : (la[i]).toNat < (lb[i]).toNat → cc = -1 := fun h => HCC.out.symm.trans (cmp_lt (by
     have := hi_less HOK.out.1 HOK.out.2 hia hib hi.2 h
     rw [HV.out.1, HV.out.2] at this
     exact this))
    have k2 : (lb[i]).toNat < (la[i]).toNat → cc = 1 := fun h => HCC.out.symm.trans (cmp_gt (by
     have := hi_less HOK.out.2 HOK.out.1 hib hia hi.2.symm h
     rw [HV.out.1, HV.out.2] at this
     exact this))
    have k3 : (la[i]).toNat = (lb[i]).toNat → Go.Div.hi la i = Go.Div.hi lb i := fun h => by rw [hi_step hia, hi_step hib, h, hi.2]
    obtain ⟨x, hx⟩ : ∃ z : Nat, (la[i]).toNat = z := ⟨_, rfl⟩
    obtain ⟨y, hy⟩ : ∃ z : Nat, (lb[i]).toNat = z := ⟨_, rfl⟩
    rw [hx] at g1 g2 k1 k2 k3
    rw [hy] at g3 g4 k1 k2 k3
    obtain ⟨ad, hA, hz0⟩ := Kd.at_int HC.out (i : Int) (by omega) (by omega)
    subst hA
    have hr0 : rd la (i : Int) = (x : Int) := by
     unfold rd
     rw [Int.toNat_natCast, List.getD_eq_getElem?_getD, List.getElem?_eq_getElem hia]
     exact g1.symm
    rw [hr0, Int.toNat_natCast] at hz0
    obtain ⟨ad1, hA1, hz1⟩ := Kd.at_int HC1.out (i : Int) (by omega) (by omega)
    subst hA1
    have hr1 : rd lb (i : Int) = (y : Int) := by
     unfold rd
     rw [Int.toNat_natCast, List.getD_eq_getElem?_getD, List.getElem?_eq_getElem hib]
     exact g3.symm
    rw [hr1, Int.toNat_natCast] at hz1
    have hy0 := pw_cell_below HB.out hz0
    have hy1 := pw_cell_below HB.out hz1
    clear hz0 hz1
    have c1 : (0 : Int) ≤ (i : Int) := by omega
    have c2 : (i : Int) < (n : Int) := by omega
    have Z1 := wrp (x := (i : Int) - 1) (y := (i : Int) - 1) (by omega)
    have HK := md_ (show i ≤ n by omega)
    obtain ⟨xv, hxv⟩ : ∃ z : Int, (x : Int) = z := ⟨_, rfl⟩
    obtain ⟨yv, hyv⟩ : ∃ z : Int, (y : Int) = z := ⟨_, rfl⟩
    rw [hxv] at hy0
    rw [hyv] at hy1
    obtain ⟨z1, z2⟩ := Z1.out
    clear Z1
    rcases Nat.lt_trichotomy x y with d | d | d
    ·have e1 : (xv == yv) = false := by rw [beq_eq_false_iff_ne]; omega
     have e2 : ¬ xv = yv := by omega
     have e3 := decide_eq_true (show xv < yv by omega)
     have e4 := decide_eq_false (show ¬ yv < xv by omega)
     have hq := k1 d
     clear hn hi hia hib g1 g2 g3 g4 k1 k2 k3 hx hy hr0 hr1 hxv hyv d
     go_upto_region 10 with (fail)
     go_quiet (fail)
     go_upto_region 11 with (fail)
     go_quiet (fail)
     go_wp2
     go_ret
     exact ⟨by subst hq; rfl, by repeat (first | exact HB.out | apply pw_below_drewN)⟩
    ·have e1 : (xv == yv) = true := by rw [beq_iff_eq]; omega
     have e2 : xv = yv := by omega
     have e3 := decide_eq_false (show ¬ xv < yv by omega)
     have e4 := decide_eq_false (show ¬ yv < xv by omega)
     have HS := md_ (k3 d)
     clear hn hi hia hib g1 g2 g3 g4 k1 k2 k3 hx hy hr0 hr1 hxv hyv d
     go_upto_region 10 with (fail)
     go_quiet (fail)
     go_wp2
     go_roundg i
     case measure => omega
     case rel => exact ⟨by first | rfl | rw [z1] | rw [z2], ⟨HK.out, HS.out⟩, ⟨by repeat (first | exact HB.out | apply pw_below_drewN)⟩⟩
    ·have e1 : (xv == yv) = false := by rw [beq_eq_false_iff_ne]; omega
     have e2 : ¬ xv = yv := by omega
     have e3 := decide_eq_false (show ¬ xv < yv by omega)
     have e4 := decide_eq_true (show yv < xv by omega)
     have hq := k2 d
     clear hn hi hia hib g1 g2 g3 g4 k1 k2 k3 hx hy hr0 hr1 hxv hyv d
     go_upto_region 10 with (fail)
     go_quiet (fail)
     go_upto_region 11 with (fail)
     go_quiet (fail)
     go_wp2
     go_ret
     exact ⟨by subst hq; rfl, by repeat (first | exact HB.out | apply pw_below_drewN)⟩
 ·have k1 : ((n : Int) == (m : Int)) = false := by rw [beq_eq_false_iff_ne]; omega
  have k2 : ¬ n = m := by omega
  have k3 := decide_eq_false (show ¬ n < m by omega)
  rw [cmp_gt (hgt c0)]
  clear h0 h1 hlc hlc1 hC hC1 hlt hgt hla hlb hok hok1 hval hval1 hlen hlen1 hn hm
  go_enter Tryz.func102, Tryz.ntmps102
  go_wp2_with (first
  | (go_at_call 101; (with_reducible refine T0.out.mono ?_); rintro e w' ⟨rfl, hw⟩; obtain rfl := hw.symm)
  | (go_at_call 101; (with_reducible refine T1.out.mono ?_); rintro e w' ⟨rfl, hw⟩; obtain rfl := hw.symm))
  go_ret
  exact ⟨rfl, Below.refl _ _⟩
end Go.Proofs.YtdoeigngpemcgaaGreatDoor.Dec
namespace Go.Read
open Go.Proofs.YtdoeigngpemcgaaGreatDoor
def decT (n : Int) : List UInt8 := if n < 0 then 45 :: Num.textN n.natAbs else Num.textN n.toNat
end Go.Read
namespace Go.Proofs.YtdoeigngpemcgaaGreatDoor.Dec
open Go.RowKit Go.Read Go.Proofs.YtdoeigngpemcgaaGreatDoor.Pure YtdoeigngpemcgaaGreatDoorW.PrintWords YtdoeigngpemcgaaGreatDoorW.PrintLast YtdoeigngpemcgaaGreatDoorW.PrintMore
set_option maxRecDepth 100000 in
theorem r_Of (w : World) (v : Nat) (hv : v < 18446744073709551616) : Calls Tryz.prog 42 #[.int .u64 (v : Int)] w fun e w' => ∃ r, e = .returned r ∧ Nm w' r v ∧ Below w.heap.size w w' := by
 obtain ⟨m, hm⟩ : ∃ z : Int, (v : Int) = z := ⟨_, rfl⟩
 obtain ⟨lo, hlo⟩ : ∃ z : Int, m % 4294967296 = z := ⟨_, rfl⟩
 obtain ⟨hi, hhi⟩ : ∃ z : Int, m / 4294967296 = z := ⟨_, rfl⟩
 have hhi2 : hi % 4294967296 = hi := by omega
 have HNorm : Aside0 (∀ w x, Kd.V (Kd.int .u32) 35 w 0 (fun _ => True) x [lo, hi] → Calls Tryz.prog 99 #[x] w fun e w' => ∃ r, e = .returned r ∧ Nm w' r v ∧ Below w.heap.size w w') := ⟨fun w x hx => by
  obtain ⟨A, c, rfl⟩ := Kd.V_slice hx
  obtain ⟨_, h2, h3⟩ := Kd.V_reads' hx
  have := r_Norm (l := [lo, hi]) h3 h2 (by intro x hx; simp at hx; rcases hx with rfl | rfl <;> omega) (by simp)
  rw [show Num.valN [lo, hi] = v by simp [Num.valN]; omega] at this
  exact this⟩
 have u1 : IntKind.u32.wrap m = lo := by rw [IntKind.wrap_u32]; exact hlo
 have u2 : IntKind.u32.wrap hi = hi := by rw [IntKind.wrap_u32]; exact hhi2
 have HB := md_ (Below.refl w.heap.size w)
 rw [hm]
 clear hv hm hhi2
 go_enter Tryz.func42, Tryz.ntmps42
 go_wp2_with (go_at_call 99; (refine (HNorm.out _ _ (two_V _ lo hi)).mono ?_); rintro e w2 ⟨r, rfl, hr, hb⟩; have hr' := md_ hr; replace HB := md_ (below_step (below_alloc HB.out _) hb); clear hr hb)
 go_ret
 exact ⟨_, rfl, hr'.out, HB.out⟩
set_option maxRecDepth 100000 in
theorem r_Decimal (w : World) (n : Int) (h0 : -9223372036854775808 ≤ n) (h1 : n ≤ 9223372036854775807) : Calls Tryz.prog 15 #[.int .i64 n] w fun e w' => e = .returned (.string (bs (decT n))) ∧ Below w.heap.size w w' := by
 unfold decT
 have HB := md_ (Below.refl w.heap.size w)
 have ft : ∀ a : Nat, a < 18446744073709551616 → Fit a := fun a h => fit_lt (b := 64) h (by omega)
 by_cases h : n < 0
 ·have c1 := decide_eq_true h
  rw [if_pos h]
  obtain ⟨a, ha⟩ : ∃ a : Nat, n.natAbs = a := ⟨_, rfl⟩
  have hab : a < 18446744073709551616 := by omega
  have HO := md_ (fun w => r_Of w a hab)
  have HX := md_ (fun (w : World) (v : Value) (h : Nm w v a) => r_Text h (ft a hab))
  rw [ha]
  obtain ⟨x, hx⟩ : ∃ x : Int, (a : Int) = x := ⟨_, rfl⟩
  rw [hx] at HO
  obtain ⟨un, hun⟩ : ∃ z : Int, n % 18446744073709551616 = z := ⟨_, rfl⟩
  have u1 : IntKind.u64.wrap n = un := by rw [IntKind.wrap_u64]; exact hun
  have u2 : IntKind.u64.wrap (-un) = x := by rw [IntKind.wrap_u64]; omega
  obtain ⟨t, ht⟩ : ∃ z : ByteArray, (⟨(Num.textN a).toArray⟩ : ByteArray) = z := ⟨_, rfl⟩
  rw [ht] at HX
  have hcat : ⟨#[45]⟩ ++ t = bs (45 :: Num.textN a) := by rw [← ht]; apply ByteArray.ext; simp [bs]
  have hsz : ¬ 9223372036854775807 < 1 + t.size := by
   have := Pure.textN_len a 4 (by omega)
   rw [← ht]
   show ¬ _ < 1 + (Num.textN a).toArray.size
   rw [List.size_toArray]
   omega
  obtain ⟨u, hu⟩ : ∃ z, bs (45 :: Num.textN a) = z := ⟨_, rfl⟩
  rw [hu] at hcat ⊢
  clear h h0 h1 ha hab hx hun ht hu ft
  go_enter Tryz.func15, Tryz.ntmps15
  go_wp2_with (first | (go_at_call 42; (with_reducible refine (HO.out _).mono ?_); rintro q w' ⟨r, rfl, hr, hb⟩; have hr' := md_ hr; replace HB := bt_ HB hb; clear hr hb) | (go_at_call 47; (with_reducible refine (HX.out _ _ hr'.out).mono ?_); rintro q w' ⟨rfl, hb⟩; replace HB := bt_ HB hb; clear hb))
  go_ret
  exact ⟨rfl, HB.out⟩
 ·have c1 := decide_eq_false h
  rw [if_neg h]
  obtain ⟨a, ha⟩ : ∃ a : Nat, n.toNat = a := ⟨_, rfl⟩
  have hab : a < 18446744073709551616 := by omega
  have HO := md_ (fun w => r_Of w a hab)
  have HX := md_ (fun (w : World) (v : Value) (h : Nm w v a) => r_Text h (ft a hab))
  rw [ha]
  have hx : (a : Int) = n := by omega
  rw [hx] at HO
  have u1 : IntKind.u64.wrap n = n := by rw [IntKind.wrap_u64]; omega
  obtain ⟨t, ht⟩ : ∃ z : ByteArray, (⟨(Num.textN a).toArray⟩ : ByteArray) = z := ⟨_, rfl⟩
  have ht2 : bs (Num.textN a) = t := ht
  rw [ht] at HX
  rw [ht2]
  clear h h0 h1 ha hab hx ht ht2 ft
  go_enter Tryz.func15, Tryz.ntmps15
  go_wp2_with (first | (go_at_call 42; (with_reducible refine (HO.out _).mono ?_); rintro q w' ⟨r, rfl, hr, hb⟩; have hr' := md_ hr; replace HB := bt_ HB hb; clear hr hb) | (go_at_call 47; (with_reducible refine (HX.out _ _ hr'.out).mono ?_); rintro q w' ⟨rfl, hb⟩; replace HB := bt_ HB hb; clear hb))
  go_ret
  exact ⟨rfl, HB.out⟩
end Go.Proofs.YtdoeigngpemcgaaGreatDoor.Dec
namespace Go.Read
open Go.Flt Go.Proofs.YtdoeigngpemcgaaGreatDoor Go.Proofs.YtdoeigngpemcgaaGreatDoor.Dec
def q1 (l : List UInt8) := after [43, 45] l
def qA (l : List UInt8) := dg (q1 l)
def q2 (l : List UInt8) := past (q1 l)
def qp (l : List UInt8) := hasM [46] (q2 l)
def qB (l : List UInt8) := if qp l then dg (q2 l).tail else []
def q3 (l : List UInt8) := if qp l then past (q2 l).tail else q2 l
def qE (l : List UInt8) := hasM [69, 101, 68, 100] (q3 l)
def q4 (l : List UInt8) := after [69, 101, 68, 100] (q3 l)
def qS (l : List UInt8) := hasM [43, 45] (q4 l)
def qm (l : List UInt8) := minus (q4 l)
def q5 (l : List UInt8) := after [43, 45] (q4 l)
def qx (l : List UInt8) : Int := if qE l || qS l then expo (qm l) (dg (q5 l)) else 0
def q6 (l : List UInt8) := if qE l || qS l then past (q5 l) else q5 l
def parseN (l : List UInt8) : Nat × Bool :=
 if 400 < l.length then (0, false) else if l.all (· == 32) then (0, true) else if qA l ++ qB l = [] then (0, false) else
 if q6 l = [] then (sg (minus l) (flt (Num.decL 0 (qA l ++ qB l)) (qx l - (qB l).length)), true) else (0, false)
theorem after_len (of l : List UInt8) : (after of l).length ≤ l.length := by
 unfold after
 split
 ·rw [List.length_tail]; omega
 ·exact Nat.le_refl _
theorem past_len (l : List UInt8) : (past l).length ≤ l.length := (List.dropWhile_sublist _).length_le
theorem dg_digs (l : List UInt8) : Num.digs (dg l) = true := by
 unfold Num.digs dg
 induction l with
 | nil => rfl
 | cons c t ih =>
  rw [List.takeWhile_cons]
  split
  ·rw [List.all_cons, ih, Bool.and_true]
   assumption
  ·rfl
theorem digs_app {l m : List UInt8} (h : Num.digs l = true) (k : Num.digs m = true) : Num.digs (l ++ m) = true := by
 unfold Num.digs at *
 rw [List.all_append, h, k]
 rfl
theorem qB_digs (l : List UInt8) : Num.digs (qB l) = true := by
 unfold qB
 split
 ·exact dg_digs _
 ·rfl
theorem two_len (l : List UInt8) : (dg l).length + (past l).length = l.length := by
 rw [← List.length_append, dg_past]
theorem q_len (l : List UInt8) : (qA l).length + (qB l).length + (q3 l).length ≤ l.length := by
 have h1 := after_len [43, 45] l
 have h2 := two_len (q1 l)
 have h3 : (q1 l).length ≤ l.length := h1
 have h4 : (qA l).length + (q2 l).length = (q1 l).length := h2
 unfold qB q3
 split
 ·have h5 := two_len (q2 l).tail
  rw [List.length_tail] at h5
  omega
 ·show _ + 0 + _ ≤ _
  omega
theorem trim_nil (l : List UInt8) : Lib.trimB l 32 = [] ↔ l.all (· == 32) = true := by
 have key : ∀ l : List UInt8, l.dropWhile (· == 32) = [] ↔ l.all (· == 32) = true := by
  intro l
  induction l with
  | nil => exact ⟨fun _ => rfl, fun _ => rfl⟩
  | cons c t ih =>
   rw [List.dropWhile_cons, List.all_cons]
   by_cases h : (c == 32) = true
   ·rw [if_pos h, h, Bool.true_and]; exact ih
   ·rw [if_neg h]
    simp [h]
 unfold Lib.trimB Lib.trimLeftB Lib.trimRightB
 rw [key, List.all_reverse]
 have h2 : (l.reverse.dropWhile (· == 32)).all (· == 32) = true ↔ l.all (· == 32) = true := by
  rw [← List.all_reverse (l := l)]
  generalize l.reverse = m
  induction m with
  | nil => exact Iff.rfl
  | cons c t ih =>
   rw [List.dropWhile_cons, List.all_cons]
   by_cases h : (c == 32) = true
   ·rw [if_pos h, h, Bool.true_and]; exact ih
   ·rw [if_neg h, List.all_cons]
 exact h2
theorem expo_bound (neg : Bool) (l : List UInt8) (h : Num.digs l = true) : -100000 < expo neg l ∧ expo neg l < 100000 := by
 have key : ((if 5 < (trim0 l).length then 99999 else Num.decL 0 (trim0 l) : Nat) : Int) < 100000 := by
  split
  ·decide
  ·have h1 := Num.decL_lt (trim0 l) (Num.digs_mem (trim_digs h))
   have h2 : 10 ^ (trim0 l).length ≤ 10 ^ 5 := Nat.pow_le_pow_right (by decide) (by omega)
   omega
 unfold expo
 generalize ((if 5 < (trim0 l).length then 99999 else Num.decL 0 (trim0 l) : Nat)) = n at key ⊢
 cases neg
 ·show -100000 < (n : Int) ∧ (n : Int) < 100000
  omega
 ·show -100000 < -(n : Int) ∧ -(n : Int) < 100000
  omega
theorem qx_bound (l : List UInt8) : -100000 < qx l ∧ qx l < 100000 := by
 unfold qx
 split
 ·exact expo_bound _ _ (dg_digs _)
 ·omega
end Go.Read
namespace Go.Proofs.YtdoeigngpemcgaaGreatDoor.Dec
open Go.RowKit Go.Flt Go.Read Go.Proofs.YtdoeigngpemcgaaGreatDoor.Pure YtdoeigngpemcgaaGreatDoorW.PrintWords YtdoeigngpemcgaaGreatDoorW.PrintLast YtdoeigngpemcgaaGreatDoorW.PrintMore
theorem below_or {n : Nat} {w0 w w' : World} (h : Below n w0 w) (k : w' = w ∨ w' = w.drew) : Below n w0 w' := by
 rcases k with rfl | rfl
 ·exact h
 ·exact below_drew h
set_option maxRecDepth 100000 in
theorem d_Parse_long (w : World) (l : List UInt8) (h : 400 < l.length) :
  Calls Tryz.prog 10 #[.string (bs l)] w fun e w' => e = .returned (.tuple #[.int .u64 0, .bool false]) ∧ Below w.heap.size w w' := by
 obtain ⟨s, hs⟩ : ∃ s, bs l = s := ⟨_, rfl⟩
 have c1 := decide_eq_true (show (400 : Int) < (s.size : Nat) by rw [← hs, bs_size]; omega)
 rw [hs]
 clear hs h
 go_enter Tryz.func10, Tryz.ntmps10
 go_wp2
 go_ret2
 exact ⟨rfl, Below.refl _ _⟩
set_option maxRecDepth 100000 in
theorem d_Parse_blank (w : World) (l : List UInt8) (h : l.length ≤ 400) (h2 : l.all (· == 32) = true) :
  Calls Tryz.prog 10 #[.string (bs l)] w fun e w' => e = .returned (.tuple #[.int .u64 0, .bool true]) ∧ Below w.heap.size w w' := by
 have HT := md_ (fun w => Tryz.strings_Trim_one (bs l) 32 (by decide) w (by rw [bs_size]; omega))
 obtain ⟨t, ht⟩ : ∃ t, (⟨(Lib.trimB (bs l).data.toList 32).toArray⟩ : ByteArray) = t := ⟨_, rfl⟩
 have c2 : t.toList = [] := by rw [← ht, ByteArray.toList_mk]; exact (trim_nil l).2 h2
 have c3 : t.toList.isEmpty = true := by rw [c2]; rfl
 rw [ht] at HT
 have HB := md_ (Below.refl w.heap.size w)
 obtain ⟨s, hs⟩ : ∃ s, bs l = s := ⟨_, rfl⟩
 have c1 := decide_eq_false (show ¬ (400 : Int) < (s.size : Nat) by rw [← hs, bs_size]; omega)
 rw [hs] at HT ⊢
 clear hs h h2 ht
 go_enter Tryz.func10, Tryz.ntmps10
 go_wp2_with (go_at_call 26; (with_reducible refine (HT.out _).mono ?_); rintro e w' ⟨rfl, hw⟩; replace HB := md_ (below_or HB.out hw); clear hw)
 go_ret2
 exact ⟨rfl, HB.out⟩
set_option maxRecDepth 100000 in
theorem d_Parse_none (w : World) (l : List UInt8) (h : l.length ≤ 400) (h2 : ¬ l.all (· == 32) = true) (h3 : qA l ++ qB l = []) :
  Calls Tryz.prog 10 #[.string (bs l)] w fun e w' => e = .returned (.tuple #[.int .u64 0, .bool false]) ∧ Below w.heap.size w w' := by
 have hu46 := Tryz.underlying46
 have HT := md_ (fun w => Tryz.strings_Trim_one (bs l) 32 (by decide) w (by rw [bs_size]; omega))
 obtain ⟨t, ht⟩ : ∃ t, (⟨(Lib.trimB (bs l).data.toList 32).toArray⟩ : ByteArray) = t := ⟨_, rfl⟩
 have c2 : ¬ t.toList = [] := by rw [← ht, ByteArray.toList_mk]; exact fun e => h2 ((trim_nil l).1 e)
 have c3 : t.toList.isEmpty = false := by
  cases e : t.toList with
  | nil => exact absurd e c2
  | cons a b => rfl
 rw [ht] at HT
 have HB := md_ (Below.refl w.heap.size w)
 have HS1 := md_ (fun w' g (hb : Below w.heap.size w w') (hg : w.heap.size ≤ g) (h : Rd w' g l) => d_sign w w' g l hb hg h)
 have k1 : (q1 l).length ≤ 1000000 := Nat.le_trans (after_len _ _) (by omega)
 have HD1 := md_ (fun w' g (hb : Below w.heap.size w w') (hg : w.heap.size ≤ g) (h : Rd w' g (q1 l)) => d_digits w w' g (q1 l) k1 hb hg h)
 have HP := md_ (fun w' g (hb : Below w.heap.size w w') (hg : w.heap.size ≤ g) (h : Rd w' g (q2 l)) => d_take w w' g [46] (q2 l) hb hg h)
 have hp46 : bs [46] = ⟨#[46]⟩ := rfl
 have hp4 : bs [69, 101, 68, 100] = ⟨#[69, 101, 68, 100]⟩ := rfl
 rw [hp46] at HP
 have k2 : (q2 l).tail.length ≤ 1000000 := by have := past_len (q1 l); have : (q2 l).length ≤ _ := this; rw [List.length_tail]; omega
 have HD2 := md_ (fun w' g (hb : Below w.heap.size w w') (hg : w.heap.size ≤ g) (h : Rd w' g (q2 l).tail) => d_digits w w' g (q2 l).tail k2 hb hg h)
 have HE := md_ (fun w' g (hb : Below w.heap.size w w') (hg : w.heap.size ≤ g) (h : Rd w' g (q3 l)) => d_take w w' g [69, 101, 68, 100] (q3 l) hb hg h)
 rw [hp4] at HE
 have HS2 := md_ (fun w' g (hb : Below w.heap.size w w') (hg : w.heap.size ≤ g) (h : Rd w' g (q4 l)) => d_sign w w' g (q4 l) hb hg h)
 have k3 : (q5 l).length ≤ 1000000 := Nat.le_trans (after_len _ _) (Nat.le_trans (after_len _ _) (by have := q_len l; omega))
 have HD3 := md_ (fun w' g (hb : Below w.heap.size w w') (hg : w.heap.size ≤ g) (h : Rd w' g (q5 l)) => d_digits w w' g (q5 l) k3 hb hg h)
 have HX := md_ (fun w' => d_exponent w' (qm l) (dg (q5 l)) (dg_digs _) (Nat.le_trans (dg_len _) k3))
 have hql := q_len l
 have HF := md_ (fun w' => d_float w' (minus l) (qA l ++ qB l) (digs_app (dg_digs _) (qB_digs l)) (by rw [List.length_append]; omega) (qx l - (qB l).length))
 have n1 : after [43, 45] l = q1 l := rfl
 have n2 : past (q1 l) = q2 l := rfl
 have n3 : dg (q1 l) = qA l := rfl
 have n4 : hasM [46] (q2 l) = qp l := rfl
 have n5 : hasM [69, 101, 68, 100] (q3 l) = qE l := rfl
 have n6 : after [69, 101, 68, 100] (q3 l) = q4 l := rfl
 have n7 : hasM [43, 45] (q4 l) = qS l := rfl
 have n8 : after [43, 45] (q4 l) = q5 l := rfl
 have n9 : minus (q4 l) = qm l := rfl
 rw [n1] at HS1
 rw [n2, n3] at HD1
 rw [n4] at HP
 rw [n5, n6] at HE
 rw [n7, n8, n9] at HS2
 have hlB : ((bs (qB l)).size : Nat) = (qB l).length := bs_size _
 have hAB : bs (qA l) ++ bs (qB l) = bs (qA l ++ qB l) := by apply ByteArray.ext; simp [bs]
 have hlA : (bs (qA l)).size = (qA l).length := bs_size _
 obtain ⟨sAB, hsAB⟩ : ∃ s, bs (qA l ++ qB l) = s := ⟨_, rfl⟩
 have hABl : sAB.toList = qA l ++ qB l := by rw [← hsAB, bs_list]
 obtain ⟨s, hs⟩ : ∃ s, bs l = s := ⟨_, rfl⟩
 have c1 := decide_eq_false (show ¬ (400 : Int) < (s.size : Nat) by rw [← hs, bs_size]; omega)
 rw [hs] at HT ⊢
 have HSE : Aside0 (bs l = s) := ⟨hs⟩
 obtain ⟨neg, hneg⟩ : ∃ x, minus l = x := ⟨_, rfl⟩
 rw [hneg] at HS1 HF
 rw [hsAB] at HF hAB
 obtain ⟨sA, hsA⟩ : ∃ s, bs (qA l) = s := ⟨_, rfl⟩
 rw [hsA] at HD1 hAB hlA
 obtain ⟨sB, hsB⟩ : ∃ s, bs (qB l) = s := ⟨_, rfl⟩
 rw [hsB] at hAB hlB
 have c4 : ¬ 9223372036854775807 < sA.size + sB.size := by omega
 have c5 : sAB.toList = [] := by rw [hABl, h3]
 have c6 : sAB.toList.isEmpty = true := by rw [c5]; rfl
 have hnB : qB l = [] := (List.append_eq_nil_iff.1 h3).2
 have hnA : qA l = [] := (List.append_eq_nil_iff.1 h3).1
 by_cases hp : qp l = true
 ·have m1 : after [46] (q2 l) = (q2 l).tail := by unfold after; rw [if_pos (n4.trans hp)]
  have m2 : dg (q2 l).tail = qB l := by unfold qB; rw [if_pos hp]
  have m3 : past (q2 l).tail = q3 l := by unfold q3; rw [if_pos hp]
  rw [m1, hp] at HP
  rw [m2, m3, hsB] at HD2
  clear HX HF HD3 HS2 HE k1 k2 k3 hql h h2 h3 ht hp46 hp4 n1 n2 n3 n4 n5 n6 n7 n8 n9 hs hneg hABl hsAB hsA hsB hp m1 m2 m3 hnB hnA hlA hlB
  go_enter Tryz.func10, Tryz.ntmps10
  go_wp2_with (first | (go_at_call 26; (with_reducible refine (HT.out _).mono ?_); rintro e w' ⟨rfl, hw⟩; replace HB := md_ (below_or HB.out hw); clear hw) | ((with_reducible refine gate_dst (N := 26) rfl ?_); refine box_event ?hg (N := 26) ?hd (cs := #[.string s]) (t := 46) ?hr ?_; (case hd => rfl); (case hg => rfl); (case hr => first | (go_simp; done) | (go_simp; rfl)); intro g1 hg w4 hbox hb; have n0_ := md_ (show Rd w4 g1 l by unfold Rd; rw [HSE.out]; exact hbox); have n2_ := md_ ((by rw [hg]; exact (below_size HB.out)) : w.heap.size ≤ g1); have n1_ := md_ (below_step HB.out hb); clear HB; have HB := n1_; have HR := n0_; have GE := n2_; clear n0_ n1_ n2_; clear hb hbox hg) | (go_at_call 27; (with_reducible refine (HS1.out _ _ HB.out GE.out HR.out).mono ?_); rintro e w' ⟨rfl, hr, hb⟩; have n0_ := md_ hr; have n1_ := md_ hb; clear HR HB hr hb; have HR := n0_; have HB := n1_; clear n0_ n1_) | (go_at_call 28; (with_reducible refine (HD1.out _ _ HB.out GE.out HR.out).mono ?_); rintro e w' ⟨rfl, hr, hb⟩; have n0_ := md_ hr; have n1_ := md_ hb; clear HR HB hr hb; have HR := n0_; have HB := n1_; clear n0_ n1_) | (go_at_call 29; (with_reducible refine (HP.out _ _ HB.out GE.out HR.out).mono ?_); rintro e w' ⟨rfl, hr, hb⟩; have n0_ := md_ hr; have n1_ := md_ hb; clear HR HB hr hb; have HR := n0_; have HB := n1_; clear n0_ n1_) | (go_at_call 28; (with_reducible refine (HD2.out _ _ HB.out GE.out HR.out).mono ?_); rintro e w' ⟨rfl, hr, hb⟩; have n0_ := md_ hr; have n1_ := md_ hb; clear HR HB hr hb; have HR := n0_; have HB := n1_; clear n0_ n1_))
  go_ret2
  exact ⟨rfl, HB.out⟩
 ·have hp' : qp l = false := by cases e : qp l with | true => exact absurd e hp | false => rfl
  have m1 : after [46] (q2 l) = q2 l := by unfold after; rw [if_neg (by rw [n4]; exact hp)]
  rw [m1, hp'] at HP
  have c7 : sA ++ ⟨#[]⟩ = sAB := by rw [← hAB, ← hsB, hnB]; rfl
  have c8 : sA = sAB := by rw [← hsA, ← hsAB, hnB, List.append_nil]
  subst c8
  have c9 : ¬ 9223372036854775807 < sA.size := by omega
  clear HX HF HD3 HS2 HE HD2 k1 k2 k3 hql h h2 h3 ht hp46 hp4 n1 n2 n3 n4 n5 n6 n7 n8 n9 hs hneg hABl hsAB hsA hsB hp m1 hnB hnA hlA hlB hp' hAB c4
  go_enter Tryz.func10, Tryz.ntmps10
  go_wp2_with (first | (go_at_call 26; (with_reducible refine (HT.out _).mono ?_); rintro e w' ⟨rfl, hw⟩; replace HB := md_ (below_or HB.out hw); clear hw) | ((with_reducible refine gate_dst (N := 26) rfl ?_); refine box_event ?hg (N := 26) ?hd (cs := #[.string s]) (t := 46) ?hr ?_; (case hd => rfl); (case hg => rfl); (case hr => first | (go_simp; done) | (go_simp; rfl)); intro g1 hg w4 hbox hb; have n0_ := md_ (show Rd w4 g1 l by unfold Rd; rw [HSE.out]; exact hbox); have n2_ := md_ ((by rw [hg]; exact (below_size HB.out)) : w.heap.size ≤ g1); have n1_ := md_ (below_step HB.out hb); clear HB; have HB := n1_; have HR := n0_; have GE := n2_; clear n0_ n1_ n2_; clear hb hbox hg) | (go_at_call 27; (with_reducible refine (HS1.out _ _ HB.out GE.out HR.out).mono ?_); rintro e w' ⟨rfl, hr, hb⟩; have n0_ := md_ hr; have n1_ := md_ hb; clear HR HB hr hb; have HR := n0_; have HB := n1_; clear n0_ n1_) | (go_at_call 28; (with_reducible refine (HD1.out _ _ HB.out GE.out HR.out).mono ?_); rintro e w' ⟨rfl, hr, hb⟩; have n0_ := md_ hr; have n1_ := md_ hb; clear HR HB hr hb; have HR := n0_; have HB := n1_; clear n0_ n1_) | (go_at_call 29; (with_reducible refine (HP.out _ _ HB.out GE.out HR.out).mono ?_); rintro e w' ⟨rfl, hr, hb⟩; have n0_ := md_ hr; have n1_ := md_ hb; clear HR HB hr hb; have HR := n0_; have HB := n1_; clear n0_ n1_))
  go_ret2
  exact ⟨rfl, HB.out⟩
set_option maxRecDepth 100000 in
theorem d_Parse_some (w : World) (l : List UInt8) (h : l.length ≤ 400) (h2 : ¬ l.all (· == 32) = true) (h3 : ¬ qA l ++ qB l = []) (F : Int) (hFF : ((sg (minus l) (flt (Num.decL 0 (qA l ++ qB l)) (qx l - (qB l).length)) : Nat) : Int) = F) :
  Calls Tryz.prog 10 #[.string (bs l)] w fun e w' => e = .returned (if q6 l = [] then .tuple #[.int .u64 F, .bool true] else .tuple #[.int .u64 0, .bool false]) ∧ Below w.heap.size w w' := by
 have hu46 := Tryz.underlying46
 have HT := md_ (fun w => Tryz.strings_Trim_one (bs l) 32 (by decide) w (by rw [bs_size]; omega))
 obtain ⟨t, ht⟩ : ∃ t, (⟨(Lib.trimB (bs l).data.toList 32).toArray⟩ : ByteArray) = t := ⟨_, rfl⟩
 have c2 : ¬ t.toList = [] := by rw [← ht, ByteArray.toList_mk]; exact fun e => h2 ((trim_nil l).1 e)
 have c3 : t.toList.isEmpty = false := by
  cases e : t.toList with
  | nil => exact absurd e c2
  | cons a b => rfl
 rw [ht] at HT
 have HB := md_ (Below.refl w.heap.size w)
 have HS1 := md_ (fun w' g (hb : Below w.heap.size w w') (hg : w.heap.size ≤ g) (h : Rd w' g l) => d_sign w w' g l hb hg h)
 have k1 : (q1 l).length ≤ 1000000 := Nat.le_trans (after_len _ _) (by omega)
 have HD1 := md_ (fun w' g (hb : Below w.heap.size w w') (hg : w.heap.size ≤ g) (h : Rd w' g (q1 l)) => d_digits w w' g (q1 l) k1 hb hg h)
 have HP := md_ (fun w' g (hb : Below w.heap.size w w') (hg : w.heap.size ≤ g) (h : Rd w' g (q2 l)) => d_take w w' g [46] (q2 l) hb hg h)
 have hp46 : bs [46] = ⟨#[46]⟩ := rfl
 have hp4 : bs [69, 101, 68, 100] = ⟨#[69, 101, 68, 100]⟩ := rfl
 rw [hp46] at HP
 have k2 : (q2 l).tail.length ≤ 1000000 := by have := past_len (q1 l); have : (q2 l).length ≤ _ := this; rw [List.length_tail]; omega
 have HD2 := md_ (fun w' g (hb : Below w.heap.size w w') (hg : w.heap.size ≤ g) (h : Rd w' g (q2 l).tail) => d_digits w w' g (q2 l).tail k2 hb hg h)
 have HE := md_ (fun w' g (hb : Below w.heap.size w w') (hg : w.heap.size ≤ g) (h : Rd w' g (q3 l)) => d_take w w' g [69, 101, 68, 100] (q3 l) hb hg h)
 rw [hp4] at HE
 have HS2 := md_ (fun w' g (hb : Below w.heap.size w w') (hg : w.heap.size ≤ g) (h : Rd w' g (q4 l)) => d_sign w w' g (q4 l) hb hg h)
 have k3 : (q5 l).length ≤ 1000000 := Nat.le_trans (after_len _ _) (Nat.le_trans (after_len _ _) (by have := q_len l; omega))
 have HD3 := md_ (fun w' g (hb : Below w.heap.size w w') (hg : w.heap.size ≤ g) (h : Rd w' g (q5 l)) => d_digits w w' g (q5 l) k3 hb hg h)
 have HX := md_ (fun w' => d_exponent w' (qm l) (dg (q5 l)) (dg_digs _) (Nat.le_trans (dg_len _) k3))
 have hql := q_len l
 have HF := md_ (fun w' => d_float w' (minus l) (qA l ++ qB l) (digs_app (dg_digs _) (qB_digs l)) (by rw [List.length_append]; omega) (qx l - (qB l).length))
 have n1 : after [43, 45] l = q1 l := rfl
 have n2 : past (q1 l) = q2 l := rfl
 have n3 : dg (q1 l) = qA l := rfl
 have n4 : hasM [46] (q2 l) = qp l := rfl
 have n5 : hasM [69, 101, 68, 100] (q3 l) = qE l := rfl
 have n6 : after [69, 101, 68, 100] (q3 l) = q4 l := rfl
 have n7 : hasM [43, 45] (q4 l) = qS l := rfl
 have n8 : after [43, 45] (q4 l) = q5 l := rfl
 have n9 : minus (q4 l) = qm l := rfl
 rw [n1] at HS1
 rw [n2, n3] at HD1
 rw [n4] at HP
 rw [n5, n6] at HE
 rw [n7, n8, n9] at HS2
 have hlB : ((bs (qB l)).size : Nat) = (qB l).length := bs_size _
 have hAB : bs (qA l) ++ bs (qB l) = bs (qA l ++ qB l) := by apply ByteArray.ext; simp [bs]
 have hlA : (bs (qA l)).size = (qA l).length := bs_size _
 obtain ⟨sAB, hsAB⟩ : ∃ s, bs (qA l ++ qB l) = s := ⟨_, rfl⟩
 have hABl : sAB.toList = qA l ++ qB l := by rw [← hsAB, bs_list]
 obtain ⟨s, hs⟩ : ∃ s, bs l = s := ⟨_, rfl⟩
 have c1 := decide_eq_false (show ¬ (400 : Int) < (s.size : Nat) by rw [← hs, bs_size]; omega)
 rw [hs] at HT ⊢
 have HSE : Aside0 (bs l = s) := ⟨hs⟩
 obtain ⟨neg, hneg⟩ : ∃ x, minus l = x := ⟨_, rfl⟩
 rw [hFF] at HF
 rw [hneg] at HS1 HF
 rw [hsAB] at HF hAB
 obtain ⟨sA, hsA⟩ : ∃ s, bs (qA l) = s := ⟨_, rfl⟩
 rw [hsA] at HD1 hAB hlA
 obtain ⟨sB, hsB⟩ : ∃ s, bs (qB l) = s := ⟨_, rfl⟩
 rw [hsB] at hAB hlB
 have c4 : ¬ 9223372036854775807 < sA.size + sB.size := by omega
 have c5 : ¬ sAB.toList = [] := by rw [hABl]; exact h3
 have c6 : sAB.toList.isEmpty = false := by
  cases e : sAB.toList with
  | nil => exact absurd e c5
  | cons a b => rfl
 obtain ⟨res, hres⟩ : ∃ z : Value, (if q6 l = [] then Value.tuple #[.int .u64 F, .bool true] else .tuple #[.int .u64 0, .bool false]) = z := ⟨_, rfl⟩
 have HRES := md_ hres
 rw [hres]
 clear hres
 obtain ⟨s6, hs6⟩ : ∃ s, bs (q6 l) = s := ⟨_, rfl⟩
 have HS6 : Aside0 (bs (q6 l) = s6) := ⟨hs6⟩
 have hl6 := md_ (show s6.toList = q6 l by rw [← hs6, bs_list])
 have hexb : -100000 < qx l ∧ qx l < 100000 := qx_bound l
 obtain ⟨ex, hex⟩ : ∃ z, qx l = z := ⟨_, rfl⟩
 have HEX := md_ hex
 obtain ⟨zB, hzB⟩ : ∃ z : Int, ((sB.size : Nat) : Int) = z := ⟨_, rfl⟩
 have hzB' : 0 ≤ zB ∧ zB ≤ 400 := by omega
 obtain ⟨e', he'⟩ : ∃ z, ex - zB = z := ⟨_, rfl⟩
 rw [hex] at HF hexb
 clear hex
 rw [show ((qB l).length : Int) = zB by omega, he'] at HF
 have w1 : wrap64 (ex - zB) = e' := by rw [i64_id (by omega) (by omega)]; exact he'
 have w2 : IntKind.i64.wrap (ex - zB) = e' := (i64_w _).trans w1
 obtain ⟨sx, hsx⟩ : ∃ s, bs (dg (q5 l)) = s := ⟨_, rfl⟩
 rw [hsx] at HX HD3
 clear hFF
 by_cases hp : qp l = true
 ·have m1 : after [46] (q2 l) = (q2 l).tail := by unfold after; rw [if_pos (n4.trans hp)]
  have m2 : dg (q2 l).tail = qB l := by unfold qB; rw [if_pos hp]
  have m3 : past (q2 l).tail = q3 l := by unfold q3; rw [if_pos hp]
  rw [m1, hp] at HP
  rw [m2, m3, hsB] at HD2
  have w4 : ex = 0 → wrap64 (-zB) = e' := fun h => by rw [i64_id (by omega) (by omega)]; omega
  have W4 := md_ w4
  clear m2 m3 w4 hexb hzB' k1 k2 k3 hql h h2 h3 ht hp46 hp4 n1 n2 n3 n4 n5 n6 n7 n8 n9 hs hneg hABl hsAB hsA hsB hp m1 hlA hlB hs6 he' hsx
  go_enter Tryz.func10, Tryz.ntmps10
  go_upto_region 14 with (first | (go_at_call 26; (with_reducible refine (HT.out _).mono ?_); rintro e w' ⟨rfl, hw⟩; replace HB := md_ (below_or HB.out hw); clear hw) | ((with_reducible refine gate_dst (N := 26) rfl ?_); refine box_event ?hg (N := 26) ?hd (cs := #[.string s]) (t := 46) ?hr ?_; (case hd => rfl); (case hg => rfl); (case hr => first | (go_simp; done) | (go_simp; rfl)); intro g1 hg w4 hbox hb; have n0_ := md_ (show Rd w4 g1 l by unfold Rd; rw [HSE.out]; exact hbox); have n2_ := md_ ((by rw [hg]; exact (below_size HB.out)) : w.heap.size ≤ g1); have n1_ := md_ (below_step HB.out hb); clear HB; have HB := n1_; have HR := n0_; have GE := n2_; clear n0_ n1_ n2_; clear hb hbox hg) | (go_at_call 27; (with_reducible refine (HS1.out _ _ HB.out GE.out HR.out).mono ?_); rintro e w' ⟨rfl, hr, hb⟩; have n0_ := md_ hr; have n1_ := md_ hb; clear HR HB hr hb; have HR := n0_; have HB := n1_; clear n0_ n1_) | (go_at_call 28; (with_reducible refine (HD1.out _ _ HB.out GE.out HR.out).mono ?_); rintro e w' ⟨rfl, hr, hb⟩; have n0_ := md_ hr; have n1_ := md_ hb; clear HR HB hr hb; have HR := n0_; have HB := n1_; clear n0_ n1_) | (go_at_call 29; (with_reducible refine (HP.out _ _ HB.out GE.out HR.out).mono ?_); rintro e w' ⟨rfl, hr, hb⟩; have n0_ := md_ hr; have n1_ := md_ hb; clear HR HB hr hb; have HR := n0_; have HB := n1_; clear n0_ n1_) | (go_at_call 28; (with_reducible refine (HD2.out _ _ HB.out GE.out HR.out).mono ?_); rintro e w' ⟨rfl, hr, hb⟩; have n0_ := md_ hr; have n1_ := md_ hb; clear HR HB hr hb; have HR := n0_; have HB := n1_; clear n0_ n1_))
  by_cases hes : (qE l || qS l) = true
  ·have hq6 : q6 l = past (q5 l) := by unfold q6; rw [if_pos hes]
   rw [hq6] at HS6
   have hx : expo (qm l) (dg (q5 l)) = ex := by rw [← HEX.out]; unfold qx; rw [if_pos hes]
   rw [hx] at HX
   cases hE : qE l with
   | true =>
    rw [hE] at HE
    clear hE hx
    by_cases h6 : past (q5 l) = []
    ·have d1 : s6.toList = [] := by rw [hl6.out]; exact hq6.trans h6
     have d2 : s6.toList.isEmpty = true := by rw [d1]; rfl
     have HC := md_ (show q6 l = [] from hq6.trans h6)
     clear h6 hq6 hes
     go_wp2_with (first | (go_at_call 29; (with_reducible refine (HE.out _ _ HB.out GE.out HR.out).mono ?_); rintro e w' ⟨rfl, hr, hb⟩; have n0_ := md_ hr; have n1_ := md_ hb; clear HR HB hr hb; have HR := n0_; have HB := n1_; clear n0_ n1_) | (go_at_call 27; (with_reducible refine (HS2.out _ _ HB.out GE.out HR.out).mono ?_); rintro e w' ⟨rfl, hr, hb⟩; have n0_ := md_ hr; have n1_ := md_ hb; clear HR HB hr hb; have HR := n0_; have HB := n1_; clear n0_ n1_) | (go_at_call 28; (with_reducible refine (HD3.out _ _ HB.out GE.out HR.out).mono ?_); rintro e w' ⟨rfl, hr, hb⟩; have n0_ := md_ hr; have n1_ := md_ hb; clear HR HB hr hb; have HR := n0_; have HB := n1_; clear n0_ n1_) | (go_at_call 30; (with_reducible refine (HX.out _).mono ?_); rintro e w' ⟨rfl, hb⟩; replace HR := md_ (show Rd _ g1 _ from blk_below HR.out hb); replace HB := bt_ HB hb; clear hb; have zz : w'.cell? ⟨g1, 0, none⟩ = some (.string s6) := by rw [← HS6.out]; exact (blk_cell HR.out 0).trans rfl) | (go_at_call 31; (with_reducible refine (HF.out _).mono ?_); rintro e w' ⟨rfl, hb⟩; replace HB := bt_ HB hb; clear hb))
     go_ret2
     exact ⟨by rw [← HRES.out, if_pos HC.out]; rfl, HB.out⟩
    ·have d1 : ¬ s6.toList = [] := by rw [hl6.out]; exact fun h => h6 (hq6.symm.trans h)
     have d2 : s6.toList.isEmpty = false := by
      cases e : s6.toList with
      | nil => exact absurd e d1
      | cons a b => rfl
     have HC := md_ (show ¬ q6 l = [] from fun h => h6 (hq6.symm.trans h))
     clear h6 hq6 hes
     go_wp2_with (first | (go_at_call 29; (with_reducible refine (HE.out _ _ HB.out GE.out HR.out).mono ?_); rintro e w' ⟨rfl, hr, hb⟩; have n0_ := md_ hr; have n1_ := md_ hb; clear HR HB hr hb; have HR := n0_; have HB := n1_; clear n0_ n1_) | (go_at_call 27; (with_reducible refine (HS2.out _ _ HB.out GE.out HR.out).mono ?_); rintro e w' ⟨rfl, hr, hb⟩; have n0_ := md_ hr; have n1_ := md_ hb; clear HR HB hr hb; have HR := n0_; have HB := n1_; clear n0_ n1_) | (go_at_call 28; (with_reducible refine (HD3.out _ _ HB.out GE.out HR.out).mono ?_); rintro e w' ⟨rfl, hr, hb⟩; have n0_ := md_ hr; have n1_ := md_ hb; clear HR HB hr hb; have HR := n0_; have HB := n1_; clear n0_ n1_) | (go_at_call 30; (with_reducible refine (HX.out _).mono ?_); rintro e w' ⟨rfl, hb⟩; replace HR := md_ (show Rd _ g1 _ from blk_below HR.out hb); replace HB := bt_ HB hb; clear hb; have zz : w'.cell? ⟨g1, 0, none⟩ = some (.string s6) := by rw [← HS6.out]; exact (blk_cell HR.out 0).trans rfl) | (go_at_call 31; (with_reducible refine (HF.out _).mono ?_); rintro e w' ⟨rfl, hb⟩; replace HB := bt_ HB hb; clear hb))
     go_ret2
     exact ⟨by rw [← HRES.out, if_neg HC.out]; rfl, HB.out⟩
   | false =>
    have hS : qS l = true := by rw [hE, Bool.false_or] at hes; exact hes
    rw [hE] at HE
    rw [hS] at HS2
    clear hE hx hS
    by_cases h6 : past (q5 l) = []
    ·have d1 : s6.toList = [] := by rw [hl6.out]; exact hq6.trans h6
     have d2 : s6.toList.isEmpty = true := by rw [d1]; rfl
     have HC := md_ (show q6 l = [] from hq6.trans h6)
     clear h6 hq6 hes
     go_wp2_with (first | (go_at_call 29; (with_reducible refine (HE.out _ _ HB.out GE.out HR.out).mono ?_); rintro e w' ⟨rfl, hr, hb⟩; have n0_ := md_ hr; have n1_ := md_ hb; clear HR HB hr hb; have HR := n0_; have HB := n1_; clear n0_ n1_) | (go_at_call 27; (with_reducible refine (HS2.out _ _ HB.out GE.out HR.out).mono ?_); rintro e w' ⟨rfl, hr, hb⟩; have n0_ := md_ hr; have n1_ := md_ hb; clear HR HB hr hb; have HR := n0_; have HB := n1_; clear n0_ n1_) | (go_at_call 28; (with_reducible refine (HD3.out _ _ HB.out GE.out HR.out).mono ?_); rintro e w' ⟨rfl, hr, hb⟩; have n0_ := md_ hr; have n1_ := md_ hb; clear HR HB hr hb; have HR := n0_; have HB := n1_; clear n0_ n1_) | (go_at_call 30; (with_reducible refine (HX.out _).mono ?_); rintro e w' ⟨rfl, hb⟩; replace HR := md_ (show Rd _ g1 _ from blk_below HR.out hb); replace HB := bt_ HB hb; clear hb; have zz : w'.cell? ⟨g1, 0, none⟩ = some (.string s6) := by rw [← HS6.out]; exact (blk_cell HR.out 0).trans rfl) | (go_at_call 31; (with_reducible refine (HF.out _).mono ?_); rintro e w' ⟨rfl, hb⟩; replace HB := bt_ HB hb; clear hb))
     go_ret2
     exact ⟨by rw [← HRES.out, if_pos HC.out]; rfl, HB.out⟩
    ·have d1 : ¬ s6.toList = [] := by rw [hl6.out]; exact fun h => h6 (hq6.symm.trans h)
     have d2 : s6.toList.isEmpty = false := by
      cases e : s6.toList with
      | nil => exact absurd e d1
      | cons a b => rfl
     have HC := md_ (show ¬ q6 l = [] from fun h => h6 (hq6.symm.trans h))
     clear h6 hq6 hes
     go_wp2_with (first | (go_at_call 29; (with_reducible refine (HE.out _ _ HB.out GE.out HR.out).mono ?_); rintro e w' ⟨rfl, hr, hb⟩; have n0_ := md_ hr; have n1_ := md_ hb; clear HR HB hr hb; have HR := n0_; have HB := n1_; clear n0_ n1_) | (go_at_call 27; (with_reducible refine (HS2.out _ _ HB.out GE.out HR.out).mono ?_); rintro e w' ⟨rfl, hr, hb⟩; have n0_ := md_ hr; have n1_ := md_ hb; clear HR HB hr hb; have HR := n0_; have HB := n1_; clear n0_ n1_) | (go_at_call 28; (with_reducible refine (HD3.out _ _ HB.out GE.out HR.out).mono ?_); rintro e w' ⟨rfl, hr, hb⟩; have n0_ := md_ hr; have n1_ := md_ hb; clear HR HB hr hb; have HR := n0_; have HB := n1_; clear n0_ n1_) | (go_at_call 30; (with_reducible refine (HX.out _).mono ?_); rintro e w' ⟨rfl, hb⟩; replace HR := md_ (show Rd _ g1 _ from blk_below HR.out hb); replace HB := bt_ HB hb; clear hb; have zz : w'.cell? ⟨g1, 0, none⟩ = some (.string s6) := by rw [← HS6.out]; exact (blk_cell HR.out 0).trans rfl) | (go_at_call 31; (with_reducible refine (HF.out _).mono ?_); rintro e w' ⟨rfl, hb⟩; replace HB := bt_ HB hb; clear hb))
     go_ret2
     exact ⟨by rw [← HRES.out, if_neg HC.out]; rfl, HB.out⟩
  ·have hes' : (qE l || qS l) = false := by cases e : (qE l || qS l) with | true => exact absurd e hes | false => rfl
   have hq6 : q6 l = q5 l := by unfold q6; rw [if_neg hes]
   rw [hq6] at HS6
   have hE : qE l = false := (Bool.or_eq_false_iff.1 hes').1
   have hS : qS l = false := (Bool.or_eq_false_iff.1 hes').2
   have hx : ex = 0 := by rw [← HEX.out]; unfold qx; rw [if_neg hes]
   have w4 := W4.out hx
   have w5 : IntKind.i64.wrap (-zB) = e' := (i64_w _).trans w4
   clear HEX
   subst hx
   rw [hE] at HE
   rw [hS] at HS2
   clear hE hS hes' HX HD3
   by_cases h6 : q5 l = []
   ·have d1 : s6.toList = [] := by rw [hl6.out]; exact hq6.trans h6
    have d2 : s6.toList.isEmpty = true := by rw [d1]; rfl
    have HC := md_ (show q6 l = [] from hq6.trans h6)
    clear h6 hq6 hes
    go_wp2_with (first | (go_at_call 29; (with_reducible refine (HE.out _ _ HB.out GE.out HR.out).mono ?_); rintro e w' ⟨rfl, hr, hb⟩; have n0_ := md_ hr; have n1_ := md_ hb; clear HR HB hr hb; have HR := n0_; have HB := n1_; clear n0_ n1_) | (go_at_call 27; (with_reducible refine (HS2.out _ _ HB.out GE.out HR.out).mono ?_); rintro e w' ⟨rfl, hr, hb⟩; have n0_ := md_ hr; have n1_ := md_ hb; clear HR HB hr hb; have HR := n0_; have HB := n1_; clear n0_ n1_; have zz : w'.cell? ⟨g1, 0, none⟩ = some (.string s6) := by rw [← HS6.out]; exact (blk_cell HR.out 0).trans rfl) | (go_at_call 31; (with_reducible refine (HF.out _).mono ?_); rintro e w' ⟨rfl, hb⟩; replace HB := bt_ HB hb; clear hb))
    go_ret2
    exact ⟨by rw [← HRES.out, if_pos HC.out]; rfl, HB.out⟩
   ·have d1 : ¬ s6.toList = [] := by rw [hl6.out]; exact fun h => h6 (hq6.symm.trans h)
    have d2 : s6.toList.isEmpty = false := by
     cases e : s6.toList with
     | nil => exact absurd e d1
     | cons a b => rfl
    have HC := md_ (show ¬ q6 l = [] from fun h => h6 (hq6.symm.trans h))
    clear h6 hq6 hes
    go_wp2_with (first | (go_at_call 29; (with_reducible refine (HE.out _ _ HB.out GE.out HR.out).mono ?_); rintro e w' ⟨rfl, hr, hb⟩; have n0_ := md_ hr; have n1_ := md_ hb; clear HR HB hr hb; have HR := n0_; have HB := n1_; clear n0_ n1_) | (go_at_call 27; (with_reducible refine (HS2.out _ _ HB.out GE.out HR.out).mono ?_); rintro e w' ⟨rfl, hr, hb⟩; have n0_ := md_ hr; have n1_ := md_ hb; clear HR HB hr hb; have HR := n0_; have HB := n1_; clear n0_ n1_; have zz : w'.cell? ⟨g1, 0, none⟩ = some (.string s6) := by rw [← HS6.out]; exact (blk_cell HR.out 0).trans rfl) | (go_at_call 31; (with_reducible refine (HF.out _).mono ?_); rintro e w' ⟨rfl, hb⟩; replace HB := bt_ HB hb; clear hb))
    go_ret2
    exact ⟨by rw [← HRES.out, if_neg HC.out]; rfl, HB.out⟩
 ·have hp' : qp l = false := by cases e : qp l with | true => exact absurd e hp | false => rfl
  have hnB : qB l = [] := by unfold qB; rw [hp']; rfl
  have m1 : after [46] (q2 l) = q2 l := by unfold after; rw [if_neg (by rw [n4]; exact hp)]
  have m3 : q2 l = q3 l := by unfold q3; rw [hp']; rfl
  rw [m1, hp', m3] at HP
  rw [m3] at HD1
  have c8 : sA = sAB := by rw [← hsA, ← hsAB, hnB, List.append_nil]
  have c8' : zB = 0 := by rw [← hzB, hlB, hnB]; rfl
  subst c8 c8'
  have c9 : ¬ 9223372036854775807 < sA.size := by omega
  have w3 : ex = e' := by omega
  subst w3
  have c7 : sA ++ ⟨#[]⟩ = sA := by apply ByteArray.ext; simp
  have w6 : wrap64 ex = ex := i64_id (by omega) (by omega)
  have w7 : IntKind.i64.wrap ex = ex := (i64_w _).trans w6
  clear m3 hp' hnB HD2 hAB c4 w1 w2 hzB hexb hzB' k1 k2 k3 hql h h2 h3 ht hp46 hp4 n1 n2 n3 n4 n5 n6 n7 n8 n9 hs hneg hABl hsAB hsA hsB hp m1 hlA hlB hs6 he' hsx
  go_enter Tryz.func10, Tryz.ntmps10
  go_upto_region 14 with (first | (go_at_call 26; (with_reducible refine (HT.out _).mono ?_); rintro e w' ⟨rfl, hw⟩; replace HB := md_ (below_or HB.out hw); clear hw) | ((with_reducible refine gate_dst (N := 26) rfl ?_); refine box_event ?hg (N := 26) ?hd (cs := #[.string s]) (t := 46) ?hr ?_; (case hd => rfl); (case hg => rfl); (case hr => first | (go_simp; done) | (go_simp; rfl)); intro g1 hg w4 hbox hb; have n0_ := md_ (show Rd w4 g1 l by unfold Rd; rw [HSE.out]; exact hbox); have n2_ := md_ ((by rw [hg]; exact (below_size HB.out)) : w.heap.size ≤ g1); have n1_ := md_ (below_step HB.out hb); clear HB; have HB := n1_; have HR := n0_; have GE := n2_; clear n0_ n1_ n2_; clear hb hbox hg) | (go_at_call 27; (with_reducible refine (HS1.out _ _ HB.out GE.out HR.out).mono ?_); rintro e w' ⟨rfl, hr, hb⟩; have n0_ := md_ hr; have n1_ := md_ hb; clear HR HB hr hb; have HR := n0_; have HB := n1_; clear n0_ n1_) | (go_at_call 28; (with_reducible refine (HD1.out _ _ HB.out GE.out HR.out).mono ?_); rintro e w' ⟨rfl, hr, hb⟩; have n0_ := md_ hr; have n1_ := md_ hb; clear HR HB hr hb; have HR := n0_; have HB := n1_; clear n0_ n1_) | (go_at_call 29; (with_reducible refine (HP.out _ _ HB.out GE.out HR.out).mono ?_); rintro e w' ⟨rfl, hr, hb⟩; have n0_ := md_ hr; have n1_ := md_ hb; clear HR HB hr hb; have HR := n0_; have HB := n1_; clear n0_ n1_))
  by_cases hes : (qE l || qS l) = true
  ·have hq6 : q6 l = past (q5 l) := by unfold q6; rw [if_pos hes]
   rw [hq6] at HS6
   have hx : expo (qm l) (dg (q5 l)) = ex := by rw [← HEX.out]; unfold qx; rw [if_pos hes]
   rw [hx] at HX
   cases hE : qE l with
   | true =>
    rw [hE] at HE
    clear hE hx
    by_cases h6 : past (q5 l) = []
    ·have d1 : s6.toList = [] := by rw [hl6.out]; exact hq6.trans h6
     have d2 : s6.toList.isEmpty = true := by rw [d1]; rfl
     have HC := md_ (show q6 l = [] from hq6.trans h6)
     clear h6 hq6 hes
     go_wp2_with (first | (go_at_call 29; (with_reducible refine (HE.out _ _ HB.out GE.out HR.out).mono ?_); rintro e w' ⟨rfl, hr, hb⟩; have n0_ := md_ hr; have n1_ := md_ hb; clear HR HB hr hb; have HR := n0_; have HB := n1_; clear n0_ n1_) | (go_at_call 27; (with_reducible refine (HS2.out _ _ HB.out GE.out HR.out).mono ?_); rintro e w' ⟨rfl, hr, hb⟩; have n0_ := md_ hr; have n1_ := md_ hb; clear HR HB hr hb; have HR := n0_; have HB := n1_; clear n0_ n1_) | (go_at_call 28; (with_reducible refine (HD3.out _ _ HB.out GE.out HR.out).mono ?_); rintro e w' ⟨rfl, hr, hb⟩; have n0_ := md_ hr; have n1_ := md_ hb; clear HR HB hr hb; have HR := n0_; have HB := n1_; clear n0_ n1_) | (go_at_call 30; (with_reducible refine (HX.out _).mono ?_); rintro e w' ⟨rfl, hb⟩; replace HR := md_ (show Rd _ g1 _ from blk_below HR.out hb); replace HB := bt_ HB hb; clear hb; have zz : w'.cell? ⟨g1, 0, none⟩ = some (.string s6) := by rw [← HS6.out]; exact (blk_cell HR.out 0).trans rfl) | (go_at_call 31; (with_reducible refine (HF.out _).mono ?_); rintro e w' ⟨rfl, hb⟩; replace HB := bt_ HB hb; clear hb))
     go_ret2
     exact ⟨by rw [← HRES.out, if_pos HC.out]; rfl, HB.out⟩
    ·have d1 : ¬ s6.toList = [] := by rw [hl6.out]; exact fun h => h6 (hq6.symm.trans h)
     have d2 : s6.toList.isEmpty = false := by
      cases e : s6.toList with
      | nil => exact absurd e d1
      | cons a b => rfl
     have HC := md_ (show ¬ q6 l = [] from fun h => h6 (hq6.symm.trans h))
     clear h6 hq6 hes
     go_wp2_with (first | (go_at_call 29; (with_reducible refine (HE.out _ _ HB.out GE.out HR.out).mono ?_); rintro e w' ⟨rfl, hr, hb⟩; have n0_ := md_ hr; have n1_ := md_ hb; clear HR HB hr hb; have HR := n0_; have HB := n1_; clear n0_ n1_) | (go_at_call 27; (with_reducible refine (HS2.out _ _ HB.out GE.out HR.out).mono ?_); rintro e w' ⟨rfl, hr, hb⟩; have n0_ := md_ hr; have n1_ := md_ hb; clear HR HB hr hb; have HR := n0_; have HB := n1_; clear n0_ n1_) | (go_at_call 28; (with_reducible refine (HD3.out _ _ HB.out GE.out HR.out).mono ?_); rintro e w' ⟨rfl, hr, hb⟩; have n0_ := md_ hr; have n1_ := md_ hb; clear HR HB hr hb; have HR := n0_; have HB := n1_; clear n0_ n1_) | (go_at_call 30; (with_reducible refine (HX.out _).mono ?_); rintro e w' ⟨rfl, hb⟩; replace HR := md_ (show Rd _ g1 _ from blk_below HR.out hb); replace HB := bt_ HB hb; clear hb; have zz : w'.cell? ⟨g1, 0, none⟩ = some (.string s6) := by rw [← HS6.out]; exact (blk_cell HR.out 0).trans rfl) | (go_at_call 31; (with_reducible refine (HF.out _).mono ?_); rintro e w' ⟨rfl, hb⟩; replace HB := bt_ HB hb; clear hb))
     go_ret2
     exact ⟨by rw [← HRES.out, if_neg HC.out]; rfl, HB.out⟩
   | false =>
    have hS : qS l = true := by rw [hE, Bool.false_or] at hes; exact hes
    rw [hE] at HE
    rw [hS] at HS2
    clear hE hx hS
    by_cases h6 : past (q5 l) = []
    ·have d1 : s6.toList = [] := by rw [hl6.out]; exact hq6.trans h6
     have d2 : s6.toList.isEmpty = true := by rw [d1]; rfl
     have HC := md_ (show q6 l = [] from hq6.trans h6)
     clear h6 hq6 hes
     go_wp2_with (first | (go_at_call 29; (with_reducible refine (HE.out _ _ HB.out GE.out HR.out).mono ?_); rintro e w' ⟨rfl, hr, hb⟩; have n0_ := md_ hr; have n1_ := md_ hb; clear HR HB hr hb; have HR := n0_; have HB := n1_; clear n0_ n1_) | (go_at_call 27; (with_reducible refine (HS2.out _ _ HB.out GE.out HR.out).mono ?_); rintro e w' ⟨rfl, hr, hb⟩; have n0_ := md_ hr; have n1_ := md_ hb; clear HR HB hr hb; have HR := n0_; have HB := n1_; clear n0_ n1_) | (go_at_call 28; (with_reducible refine (HD3.out _ _ HB.out GE.out HR.out).mono ?_); rintro e w' ⟨rfl, hr, hb⟩; have n0_ := md_ hr; have n1_ := md_ hb; clear HR HB hr hb; have HR := n0_; have HB := n1_; clear n0_ n1_) | (go_at_call 30; (with_reducible refine (HX.out _).mono ?_); rintro e w' ⟨rfl, hb⟩; replace HR := md_ (show Rd _ g1 _ from blk_below HR.out hb); replace HB := bt_ HB hb; clear hb; have zz : w'.cell? ⟨g1, 0, none⟩ = some (.string s6) := by rw [← HS6.out]; exact (blk_cell HR.out 0).trans rfl) | (go_at_call 31; (with_reducible refine (HF.out _).mono ?_); rintro e w' ⟨rfl, hb⟩; replace HB := bt_ HB hb; clear hb))
     go_ret2
     exact ⟨by rw [← HRES.out, if_pos HC.out]; rfl, HB.out⟩
    ·have d1 : ¬ s6.toList = [] := by rw [hl6.out]; exact fun h => h6 (hq6.symm.trans h)
     have d2 : s6.toList.isEmpty = false := by
      cases e : s6.toList with
      | nil => exact absurd e d1
      | cons a b => rfl
     have HC := md_ (show ¬ q6 l = [] from fun h => h6 (hq6.symm.trans h))
     clear h6 hq6 hes
     go_wp2_with (first | (go_at_call 29; (with_reducible refine (HE.out _ _ HB.out GE.out HR.out).mono ?_); rintro e w' ⟨rfl, hr, hb⟩; have n0_ := md_ hr; have n1_ := md_ hb; clear HR HB hr hb; have HR := n0_; have HB := n1_; clear n0_ n1_) | (go_at_call 27; (with_reducible refine (HS2.out _ _ HB.out GE.out HR.out).mono ?_); rintro e w' ⟨rfl, hr, hb⟩; have n0_ := md_ hr; have n1_ := md_ hb; clear HR HB hr hb; have HR := n0_; have HB := n1_; clear n0_ n1_) | (go_at_call 28; (with_reducible refine (HD3.out _ _ HB.out GE.out HR.out).mono ?_); rintro e w' ⟨rfl, hr, hb⟩; have n0_ := md_ hr; have n1_ := md_ hb; clear HR HB hr hb; have HR := n0_; have HB := n1_; clear n0_ n1_) | (go_at_call 30; (with_reducible refine (HX.out _).mono ?_); rintro e w' ⟨rfl, hb⟩; replace HR := md_ (show Rd _ g1 _ from blk_below HR.out hb); replace HB := bt_ HB hb; clear hb; have zz : w'.cell? ⟨g1, 0, none⟩ = some (.string s6) := by rw [← HS6.out]; exact (blk_cell HR.out 0).trans rfl) | (go_at_call 31; (with_reducible refine (HF.out _).mono ?_); rintro e w' ⟨rfl, hb⟩; replace HB := bt_ HB hb; clear hb))
     go_ret2
     exact ⟨by rw [← HRES.out, if_neg HC.out]; rfl, HB.out⟩
  ·have hes' : (qE l || qS l) = false := by cases e : (qE l || qS l) with | true => exact absurd e hes | false => rfl
   have hq6 : q6 l = q5 l := by unfold q6; rw [if_neg hes]
   rw [hq6] at HS6
   have hE : qE l = false := (Bool.or_eq_false_iff.1 hes').1
   have hS : qS l = false := (Bool.or_eq_false_iff.1 hes').2
   have hx : ex = 0 := by rw [← HEX.out]; unfold qx; rw [if_neg hes]
   clear HEX
   subst hx
   rw [hE] at HE
   rw [hS] at HS2
   clear hE hS hes' HX HD3
   by_cases h6 : q5 l = []
   ·have d1 : s6.toList = [] := by rw [hl6.out]; exact hq6.trans h6
    have d2 : s6.toList.isEmpty = true := by rw [d1]; rfl
    have HC := md_ (show q6 l = [] from hq6.trans h6)
    clear h6 hq6 hes
    go_wp2_with (first | (go_at_call 29; (with_reducible refine (HE.out _ _ HB.out GE.out HR.out).mono ?_); rintro e w' ⟨rfl, hr, hb⟩; have n0_ := md_ hr; have n1_ := md_ hb; clear HR HB hr hb; have HR := n0_; have HB := n1_; clear n0_ n1_) | (go_at_call 27; (with_reducible refine (HS2.out _ _ HB.out GE.out HR.out).mono ?_); rintro e w' ⟨rfl, hr, hb⟩; have n0_ := md_ hr; have n1_ := md_ hb; clear HR HB hr hb; have HR := n0_; have HB := n1_; clear n0_ n1_; have zz : w'.cell? ⟨g1, 0, none⟩ = some (.string s6) := by rw [← HS6.out]; exact (blk_cell HR.out 0).trans rfl) | (go_at_call 31; (with_reducible refine (HF.out _).mono ?_); rintro e w' ⟨rfl, hb⟩; replace HB := bt_ HB hb; clear hb))
    go_ret2
    exact ⟨by rw [← HRES.out, if_pos HC.out]; rfl, HB.out⟩
   ·have d1 : ¬ s6.toList = [] := by rw [hl6.out]; exact fun h => h6 (hq6.symm.trans h)
    have d2 : s6.toList.isEmpty = false := by
     cases e : s6.toList with
     | nil => exact absurd e d1
     | cons a b => rfl
    have HC := md_ (show ¬ q6 l = [] from fun h => h6 (hq6.symm.trans h))
    clear h6 hq6 hes
    go_wp2_with (first | (go_at_call 29; (with_reducible refine (HE.out _ _ HB.out GE.out HR.out).mono ?_); rintro e w' ⟨rfl, hr, hb⟩; have n0_ := md_ hr; have n1_ := md_ hb; clear HR HB hr hb; have HR := n0_; have HB := n1_; clear n0_ n1_) | (go_at_call 27; (with_reducible refine (HS2.out _ _ HB.out GE.out HR.out).mono ?_); rintro e w' ⟨rfl, hr, hb⟩; have n0_ := md_ hr; have n1_ := md_ hb; clear HR HB hr hb; have HR := n0_; have HB := n1_; clear n0_ n1_; have zz : w'.cell? ⟨g1, 0, none⟩ = some (.string s6) := by rw [← HS6.out]; exact (blk_cell HR.out 0).trans rfl) | (go_at_call 31; (with_reducible refine (HF.out _).mono ?_); rintro e w' ⟨rfl, hb⟩; replace HB := bt_ HB hb; clear hb))
    go_ret2
    exact ⟨by rw [← HRES.out, if_neg HC.out]; rfl, HB.out⟩
theorem d_Parse (w : World) (l : List UInt8) :
  Calls Tryz.prog 10 #[.string (bs l)] w fun e w' => e = .returned (.tuple #[.int .u64 ((parseN l).1 : Nat), .bool (parseN l).2]) ∧ Below w.heap.size w w' := by
 unfold parseN
 by_cases h : 400 < l.length
 ·rw [if_pos h]; exact d_Parse_long w l h
 rw [if_neg h]
 by_cases h2 : l.all (· == 32) = true
 ·rw [if_pos h2]; exact d_Parse_blank w l (by omega) h2
 rw [if_neg h2]
 by_cases h3 : qA l ++ qB l = []
 ·rw [if_pos h3]; exact d_Parse_none w l (by omega) h2 h3
 rw [if_neg h3]
 have k := d_Parse_some w l (by omega) h2 h3 _ rfl
 by_cases h4 : q6 l = []
 ·rw [if_pos h4] at k ⊢; exact k
 ·rw [if_neg h4] at k ⊢; exact k
end Go.Proofs.YtdoeigngpemcgaaGreatDoor.Dec
namespace Go.Read
open Go.Flt Go.Proofs.YtdoeigngpemcgaaGreatDoor Go.Proofs.YtdoeigngpemcgaaGreatDoor.Dec
theorem dec_inj : ∀ (l m : List UInt8), Num.digs l = true → Num.digs m = true → l.length = m.length → Num.decL 0 l = Num.decL 0 m → l = m
 | [], [], _, _, _, _ => rfl
 | [], _ :: _, _, _, h, _ => by cases h
 | _ :: _, [], _, _, h, _ => by cases h
 | a :: s, b :: t, hl, hm, h, e => by
  have ha := Num.digs_mem hl a List.mem_cons_self
  have hb := Num.digs_mem hm b List.mem_cons_self
  have hs : Num.digs s = true := by unfold Num.digs at *; rw [List.all_cons, Bool.and_eq_true] at hl; exact hl.2
  have ht : Num.digs t = true := by unfold Num.digs at *; rw [List.all_cons, Bool.and_eq_true] at hm; exact hm.2
  have hst : s.length = t.length := by simpa using h
  have e1 : Num.decL 0 (a :: s) = (a.toNat - 48) * 10 ^ t.length + Num.decL 0 s := by
   show Num.decL (0 * 10 + (a.toNat - 48)) s = _
   rw [Num.decL_acc, hst, Nat.zero_mul, Nat.zero_add]
  have e2 : Num.decL 0 (b :: t) = (b.toNat - 48) * 10 ^ t.length + Num.decL 0 t := by
   show Num.decL (0 * 10 + (b.toNat - 48)) t = _
   rw [Num.decL_acc, Nat.zero_mul, Nat.zero_add]
  have l1 := Num.decL_lt s (Num.digs_mem hs)
  have l2 := Num.decL_lt t (Num.digs_mem ht)
  rw [hst] at l1
  have hq : a.toNat - 48 = b.toNat - 48 := by
   have p := Nat.pow_pos (n := t.length) (show 0 < 10 by decide)
   have q1 : Num.decL 0 (a :: s) / 10 ^ t.length = a.toNat - 48 := by
    rw [e1, Nat.add_comm, Nat.add_mul_div_right _ _ p, Nat.div_eq_of_lt l1, Nat.zero_add]
   have q2 : Num.decL 0 (b :: t) / 10 ^ t.length = b.toNat - 48 := by
    rw [e2, Nat.add_comm, Nat.add_mul_div_right _ _ p, Nat.div_eq_of_lt l2, Nat.zero_add]
   rw [← q1, ← q2, e]
  have hab : a = b := UInt8.toNat_inj.1 (by omega)
  subst hab
  rw [e1, e2] at e
  rw [dec_inj s t hs ht hst (by omega)]
theorem digit_nat {d : Nat} (h : d < 10) : (UInt8.ofNat (48 + d)).toNat = 48 + d := by
 rw [UInt8.toNat_ofNat']
 exact Nat.mod_eq_of_lt (by omega)
theorem decDigits_is (u : Nat) : Num.digs (Lib.decDigits u) = true ∧ Num.decL 0 (Lib.decDigits u) = u := by
 induction u using Nat.strongRecOn with
 | _ u ih =>
  have one : ∀ d, d < 10 → Num.digs [UInt8.ofNat (48 + d)] = true := fun d h => by
   unfold Num.digs
   rw [List.all_cons, List.all_nil, Bool.and_true, digit_nat h, Bool.and_eq_true, decide_eq_true_iff, decide_eq_true_iff]
   omega
  by_cases h : u < 10
  ·rw [Lib.decDigits, dif_pos h]
   refine ⟨one u h, ?_⟩
   show 0 * 10 + ((UInt8.ofNat (48 + u)).toNat - 48) = u
   rw [digit_nat h]
   omega
  ·obtain ⟨h1, h2⟩ := ih (u / 10) (by omega)
   rw [Lib.decDigits, dif_neg h]
   refine ⟨digs_app h1 (one _ (by omega)), ?_⟩
   rw [Num.decL_append, h2]
   show u / 10 * 10 + ((UInt8.ofNat (48 + u % 10)).toNat - 48) = u
   rw [digit_nat (by omega)]
   omega
theorem textN_dec10 (v : Nat) : Num.textN v = Lib.decDigits v := by
 obtain ⟨h1, h2⟩ := decDigits_is v
 refine dec_inj _ _ (Pure.textN_digs v) h1 ?_ (by rw [Pure.textN_dec, h2])
 rw [Lib.decDigits_length]
 rcases Nat.eq_zero_or_pos v with z | z
 ·subst z
  rw [Lib.nDigits_small (by decide)]
  rfl
 ·obtain ⟨a, b⟩ := textN_pow (v := v) (by omega)
  have hp := List.length_pos_iff.2 (textN_ne v)
  have := Lib.nDigits_unique ((Num.textN v).length - 1) v a (by rw [show (Num.textN v).length - 1 + 1 = (Num.textN v).length by omega]; exact b)
  omega
theorem itoa_dec (n : Int) : Lib.itoa n = decT n := by
 unfold Lib.itoa decT
 rw [textN_dec10, textN_dec10]
end Go.Read
namespace Go.Proofs.YtdoeigngpemcgaaGreatDoor.Dec
open Go.RowKit Go.Flt Go.Read PDec Go.Proofs.YtdoeigngpemcgaaGreatDoor.Pure YtdoeigngpemcgaaGreatDoorW.PrintWords YtdoeigngpemcgaaGreatDoorW.PrintLast YtdoeigngpemcgaaGreatDoorW.PrintMore
def Pow (w0 : World) : Prop := Lib.TabBelow Tryz.prog w0.heap.size w0 "internal/strconv.uint64pow10" .u64 Lib.pow10Tab
theorem d_Itoa (w0 : World) (HT : Pow w0) (n : Int) (h0 : -9223372036854775808 ≤ n) (h1 : n ≤ 9223372036854775807) (w : World) (HB : Below w0.heap.size w0 w) :
  Calls Tryz.prog 51 #[.int .i64 n] w fun e w' => e = .returned (.string (bs (decT n))) ∧ Below w.heap.size w w' := by
 refine (Tryz.strconv_Itoa n h0 h1 w (HT w HB)).mono ?_
 rintro e w' ⟨rfl, k, os, rfl⟩
 rw [itoa_dec]
 exact ⟨rfl, Lib.below_grow w.heap.size w (Nat.le_refl _) k os⟩
def sciV (d : List UInt8) (e : Int) (z : Bool) : List UInt8 := [d.take 1, [46], d.drop 1, [69], decT (if z then 0 else e - 1)].flatten
theorem decT_short (n : Int) (h0 : -9223372036854775808 ≤ n) (h1 : n ≤ 9223372036854775807) : (decT n).length ≤ 38 := by
 unfold decT
 split
 ·rw [List.length_cons]
  have := Pure.textN_len n.natAbs 4 (by omega)
  omega
 ·have := Pure.textN_len n.toNat 4 (by omega)
  omega
set_option maxRecDepth 100000 in
theorem d_science (w0 : World) (HT : Pow w0) (w : World) (HB0 : Below w0.heap.size w0 w) (d : List UInt8) (e n : Int) (z : Bool) (hd : d.length ≤ 1000) (hd0 : d ≠ []) (he : -1000 ≤ e) (he2 : e ≤ 1000) :
  Calls Tryz.prog 49 #[.string (bs d), .int .i64 e, .int .i64 n, .bool z] w fun x w' => x = .returned (.string (bs (sciV d e z))) ∧ Below w.heap.size w w' := by
 unfold sciV
 obtain ⟨x, hx⟩ : ∃ x : Int, (if z then 0 else e - 1) = x := ⟨_, rfl⟩
 have hxb : -1001 ≤ x ∧ x ≤ 1000 := by rw [← hx]; split <;> omega
 rw [hx]
 have lx := decT_short x (by omega) (by omega)
 have HB := md_ (Below.refl w.heap.size w)
 have hb1 : bs [69] = ⟨#[69]⟩ := rfl
 have hb2 : bs [46] = ⟨#[46]⟩ := rfl
 have HI := md_ (fun w' (h : Below w.heap.size w w') => d_Itoa w0 HT x (by omega) (by omega) w' (HB0.trans (h.mono HB0.size)))
 have HJ := md_ (fun (W W' : World) h => d_join5 W W' (d.take 1) [46] (d.drop 1) [69] (decT x) h (by rw [List.length_take, List.length_drop]; simp; omega))
 obtain ⟨s, hs⟩ : ∃ s, bs d = s := ⟨_, rfl⟩
 obtain ⟨r, hr⟩ : ∃ s, bs [d.take 1, [46], d.drop 1, [69], decT x].flatten = s := ⟨_, rfl⟩
 obtain ⟨t, ht⟩ : ∃ s, bs (d.take 1) = s := ⟨_, rfl⟩
 obtain ⟨u, hu⟩ : ∃ s, bs (d.drop 1) = s := ⟨_, rfl⟩
 obtain ⟨v, hv⟩ : ∃ s, bs (decT x) = s := ⟨_, rfl⟩
 have hdl := List.length_pos_iff.2 hd0
 have k1 : s.extract 0 1 = t := by rw [← hs, bs_to]; exact ht
 have k2 : s.extract 1 s.size = u := by rw [← hs, bs_from]; exact hu
 have k4 : (1 : Int) ≤ (s.size : Nat) := by rw [← hs, bs_size]; omega
 have k5 : 1 ≤ s.size := by omega
 rw [hb1, hb2, ht, hu, hv, hr] at HJ
 rw [hv] at HI
 rw [hs, hr]
 have w1 : wrap64 (e - 1) = e - 1 := i64_id (by omega) (by omega)
 have w2 : IntKind.i64.wrap (e - 1) = e - 1 := (i64_w _).trans w1
 clear hb1 hb2 hs hr ht hu hv hd hd0 hdl he he2 hxb lx HT HB0
 cases z with
 | true =>
  have hx0 : x = 0 := hx.symm
  subst hx0
  clear hx
  go_enter Tryz.func49, Tryz.ntmps49
  go_upto_region 4 with (fail)
  go_region_held3 (fun w' => Below w.heap.size w w')
   (first | assumption | exact HB.out | exact below_drew (by assumption) | exact below_drew HB.out | exact below_alloc HB.out _ | exact below_drew (below_alloc HB.out _) | exact below_alloc (by assumption) _ | exact below_drew (below_alloc (by assumption) _) | exact Below.trans (by assumption) (hb_.mono (Below.size (by assumption))))
   (first | (go_at_call 51; (refine (HI.out _ (by assumption)).mono ?_); rintro q w2 ⟨rfl, hb_⟩) | (go_at_call 50; (refine (HJ.out _ _ (by repeat (first | exact Below.refl _ _ | apply below_drew))).mono ?_); rintro q w2 ⟨rfl, hb_⟩))
  go_wp2
  go_ret
  exact ⟨rfl, by assumption⟩
 | false =>
  have hx0 : e - 1 = x := hx
  rw [hx0] at w1 w2
  have w3 : wrap64 (e - 1) = x := by rw [hx0]; exact w1
  have w4 : IntKind.i64.wrap (e - 1) = x := (i64_w _).trans w3
  clear hx hx0
  go_enter Tryz.func49, Tryz.ntmps49
  go_upto_region 4 with (fail)
  go_region_held3 (fun w' => Below w.heap.size w w')
   (first | assumption | exact HB.out | exact below_drew (by assumption) | exact below_drew HB.out | exact below_alloc HB.out _ | exact below_drew (below_alloc HB.out _) | exact below_alloc (by assumption) _ | exact below_drew (below_alloc (by assumption) _) | exact Below.trans (by assumption) (hb_.mono (Below.size (by assumption))))
   (first | (go_at_call 51; (refine (HI.out _ (by assumption)).mono ?_); rintro q w2 ⟨rfl, hb_⟩) | (go_at_call 50; (refine (HJ.out _ _ (by repeat (first | exact Below.refl _ _ | apply below_drew))).mono ?_); rintro q w2 ⟨rfl, hb_⟩))
  go_wp2
  go_ret
  exact ⟨rfl, by assumption⟩
theorem sciV_len {d : List UInt8} {e : Int} {z : Bool} (hd : d.length ≤ 17) (he : -335 ≤ e) (he2 : e ≤ 343) : (sciV d e z).length ≤ 1000 := by
 have := decT_short (if z then 0 else e - 1) (by split <;> omega) (by split <;> omega)
 unfold sciV
 simp
 omega
set_option maxRecDepth 100000 in
theorem d_Science (w0 : World) (HT : Pow w0) (w : World) (HB0 : Below w0.heap.size w0 w) (a : Nat) (ha : a < 18446744073709551616) (n : Int) : Calls Tryz.prog 17 #[.int .u64 (a : Int), .int .i64 n] w fun x w' => x = .returned (.string (bs (shownV a (sciV (repText a (many n)) (repExp a (many n)) (zero1 (repText a (many n))))))) ∧ Below w.heap.size w w' := by
 obtain ⟨hm1, hm2⟩ := many_bound n
 have key : Calls Tryz.prog 48 #[.int .u64 (a : Int), .int .i64 n, .func (.func 49) #[] #[]] w fun x w' => x = .returned (.string (bs (shownV a (sciV (repText a (many n)) (repExp a (many n)) (zero1 (repText a (many n))))))) ∧ Below w.heap.size w w' := by
  unfold shownV
  cases hf : ffin a with
  | false => exact d_shown_odd w a ha hf n 49
  | true =>
   have hl := repText_size hf hm1
   obtain ⟨b1, b2⟩ := repExp_bound hf (many n)
   exact d_shown_science w a ha hf n _ (Nat.le_trans (sciV_len (by omega) b1 b2) (by decide)) w (Below.refl _ _) (fun w' h => d_science w0 HT w' (HB0.trans (h.mono HB0.size)) _ _ _ _ (by omega) (repText_ne hm1) (by omega) (by omega))
 have HK := md_ key
 obtain ⟨u, hu⟩ : ∃ z, bs (shownV a (sciV (repText a (many n)) (repExp a (many n)) (zero1 (repText a (many n))))) = z := ⟨_, rfl⟩
 obtain ⟨aa, haa⟩ : ∃ z : Int, (a : Int) = z := ⟨_, rfl⟩
 rw [hu, haa] at HK
 rw [hu, haa]
 clear key hu haa ha hm1 hm2 HT HB0
 go_enter Tryz.func17, Tryz.ntmps17
 go_wp2_with (go_at_call 48; (with_reducible refine HK.out.mono ?_); rintro q w' ⟨rfl, hb⟩; have HB := md_ hb; clear hb)
 go_ret
 exact ⟨rfl, HB.out⟩
theorem awake_parse : parseN [49, 46, 53, 69, 51] = (4654311885213007872, true) := by kernel_rfl
theorem awake_dex : Dex (fmant 4654311885213007872) (fpow 4654311885213007872) 4 := ⟨by kernel_rfl, by kernel_rfl⟩
theorem awake_fixed : shownV 4654311885213007872 (fixedV (repText 4654311885213007872 (many 6)) (repExp 4654311885213007872 (many 6)) (many 6)) = [49, 53, 48, 48, 46, 48, 48] := by
 unfold repText repExp
 rw [dex_eq awake_dex]
 kernel_rfl
set_option maxRecDepth 100000 in
theorem awake_any (w : World) : Calls Tryz.prog 12 #[] w fun e w' => e = .returned (.bool true) ∧ Below w.heap.size w w' := by
 have HP : Aside0 (∀ w, Calls Tryz.prog 10 #[.string ⟨#[49, 46, 53, 69, 51]⟩] w fun e w' => e = .returned (.tuple #[.int .u64 4654311885213007872, .bool true]) ∧ Below w.heap.size w w') := ⟨fun w => by
  have h := d_Parse w [49, 46, 53, 69, 51]
  rw [awake_parse] at h
  exact h⟩
 have HF : Aside0 (∀ w, Calls Tryz.prog 20 #[.int .u64 4654311885213007872, .int .i64 6] w fun x w' => x = .returned (.string ⟨#[49, 53, 48, 48, 46, 48, 48]⟩) ∧ Below w.heap.size w w') := ⟨fun w => by
  have h := d_Fixed w 4654311885213007872 (by decide) 6
  rw [awake_fixed] at h
  exact h⟩
 have HB := md_ (Below.refl w.heap.size w)
 go_enter Tryz.func12, Tryz.ntmps12
 go_wp2_with (first | (go_at_call 10; (with_reducible refine (HP.out _).mono ?_); rintro q w' ⟨rfl, hb⟩; replace HB := bt_ HB hb; clear hb) | (go_at_call 20; (with_reducible refine (HF.out _).mono ?_); rintro q w' ⟨rfl, hb⟩; replace HB := bt_ HB hb; clear hb))
 go_ret
 exact ⟨rfl, HB.out⟩
end Go.Proofs.YtdoeigngpemcgaaGreatDoor.Dec
namespace Go.Read
open Go.Flt Go.Proofs.YtdoeigngpemcgaaGreatDoor Go.Proofs.YtdoeigngpemcgaaGreatDoor.Dec
def stop (l : List UInt8) : Prop := ∀ c t, l = c :: t → isd c = false
end Go.Read
namespace Go.Flt
open Go.Num
end Go.Flt
namespace Go.Proofs.YtdoeigngpemcgaaGreatDoor.Dec
open Go.RowKit Go.Flt Go.Read PDec Go.Proofs.YtdoeigngpemcgaaGreatDoor.Pure YtdoeigngpemcgaaGreatDoorW.PrintWords YtdoeigngpemcgaaGreatDoorW.PrintLast YtdoeigngpemcgaaGreatDoorW.PrintMore
theorem bs_app (a b : List UInt8) : bs a ++ bs b = bs (a ++ b) := by
 apply ByteArray.ext
 simp [bs]
def engD (d : List UInt8) (p : Int) : List UInt8 := d ++ List.replicate (p - d.length).toNat 48
def engW (d : List UInt8) (x p : Int) : List UInt8 := [(engD d p).take p.toNat, [46], (engD d p).drop p.toNat, [69], decT (x - p + 1)].flatten
def engV (d : List UInt8) (e : Int) (z : Bool) : List UInt8 := engW d (if z then 0 else e - 1) ((if z then 0 else e - 1) % 3 + 1)
theorem tmod3 (x : Int) : (x.tmod 3 + 3).tmod 3 = x % 3 ∧ -2 ≤ x.tmod 3 ∧ x.tmod 3 ≤ 2 := by
 have h : (0 ≤ x ∧ x.tmod 3 = x % 3) ∨ (x < 0 ∧ x.tmod 3 = -((-x) % 3)) := by
  rcases Int.lt_or_le x 0 with c | c
  ·right
   refine ⟨c, ?_⟩
   conv => lhs; rw [← Int.neg_neg x, Int.neg_tmod, Int.tmod_eq_emod_of_nonneg (by omega)]
  ·exact .inl ⟨c, Int.tmod_eq_emod_of_nonneg c⟩
 have h2 : 0 ≤ x.tmod 3 + 3 := by omega
 rw [Int.tmod_eq_emod_of_nonneg h2]
 omega
theorem decT_le {x : Int} (h : -2000 ≤ x) (h2 : x ≤ 2000) : (decT x).length ≤ 40 := by
 have := decT_short x (by omega) (by omega)
 omega
theorem cat {l m : List UInt8} {s t u : ByteArray} (hs : bs l = s) (ht : bs m = t) (hu : bs (l ++ m) = u) (h : l.length + m.length ≤ 9223372036854775807) : s ++ t = u ∧ ¬ 9223372036854775807 < s.size + t.size := by
 subst hs ht hu
 exact ⟨bs_app l m, by rw [bs_size, bs_size]; omega⟩
set_option maxRecDepth 100000 in
theorem d_engineer (w0 : World) (HT : Pow w0) (w : World) (HB0 : Below w0.heap.size w0 w) (d : List UInt8) (e n : Int) (z : Bool) (hd : d.length ≤ 1000) (he : -1000 ≤ e) (he2 : e ≤ 1000) :
  Calls Tryz.prog 58 #[.string (bs d), .int .i64 e, .int .i64 n, .bool z] w fun x w' => x = .returned (.string (bs (engV d e z))) ∧ Below w.heap.size w w' := by
 unfold engV
 obtain ⟨x, hx⟩ : ∃ x : Int, (if z then 0 else e - 1) = x := ⟨_, rfl⟩
 have hxb : -1001 ≤ x ∧ x ≤ 1000 := by rw [← hx]; split <;> omega
 rw [hx]
 obtain ⟨p, hp⟩ : ∃ p : Int, x % 3 + 1 = p := ⟨_, rfl⟩
 rw [hp]
 unfold engW
 obtain ⟨m1, m2, m3⟩ := tmod3 x
 obtain ⟨r1, hr1⟩ : ∃ r : Int, x.tmod 3 = r := ⟨_, rfl⟩
 rw [hr1] at m1 m2 m3
 obtain ⟨r2, hr2⟩ : ∃ r : Int, r1 + 3 = r := ⟨_, rfl⟩
 rw [hr2] at m1
 obtain ⟨r3, hr3⟩ : ∃ r : Int, x % 3 = r := ⟨_, rfl⟩
 rw [hr3] at m1 hp
 obtain ⟨q1, hq1⟩ : ∃ r : Int, x - p = r := ⟨_, rfl⟩
 obtain ⟨q2, hq2⟩ : ∃ r : Int, q1 + 1 = r := ⟨_, rfl⟩
 have W1 := wrp (x := r1) (y := r1) (by omega)
 have W2 := wrp (x := r1 + 3) (y := r2) (by omega)
 have W3 := wrp (x := r3) (y := r3) (by omega)
 have W4 := wrp (x := r3 + 1) (y := p) (by omega)
 have W5 := wrp (x := x - p) (y := q1) (by omega)
 have W6 := wrp (x := q1 + 1) (y := q2) (by omega)
 have lx := decT_le (x := q2) (by omega) (by omega)
 rw [hq1, hq2]
 have HB := md_ (Below.refl w.heap.size w)
 have hb1 : bs [69] = ⟨#[69]⟩ := rfl
 have hb2 : bs [46] = ⟨#[46]⟩ := rfl
 obtain ⟨g, hg⟩ : ∃ r : Int, p - d.length = r := ⟨_, rfl⟩
 have hD : (engD d p).length ≤ 1003 ∧ p ≤ (engD d p).length := by
  unfold engD
  rw [List.length_append, List.length_replicate]
  omega
 have hDD : d ++ List.replicate g.toNat 48 = engD d p := by rw [← hg]; rfl
 have W7 := wrp (x := p - (d.length : Int)) (y := g) (by omega)
 have HZ := md_ (fun w => d_zeros w g (by omega))
 have HI := md_ (fun w' (h : Below w.heap.size w w') => d_Itoa w0 HT q2 (by omega) (by omega) w' (HB0.trans (h.mono HB0.size)))
 have HJ := md_ (fun (W W' : World) h => d_join5 W W' ((engD d p).take p.toNat) [46] ((engD d p).drop p.toNat) [69] (decT q2) h (by rw [List.length_take, List.length_drop]; simp; omega))
 obtain ⟨s, hs⟩ : ∃ s, bs d = s := ⟨_, rfl⟩
 obtain ⟨l, hl⟩ : ∃ s, bs (List.replicate g.toNat 48) = s := ⟨_, rfl⟩
 obtain ⟨sd, hsd⟩ : ∃ s, bs (engD d p) = s := ⟨_, rfl⟩
 obtain ⟨r, hr⟩ : ∃ s, bs [(engD d p).take p.toNat, [46], (engD d p).drop p.toNat, [69], decT q2].flatten = s := ⟨_, rfl⟩
 obtain ⟨t, ht⟩ : ∃ s, bs ((engD d p).take p.toNat) = s := ⟨_, rfl⟩
 obtain ⟨u, hu⟩ : ∃ s, bs ((engD d p).drop p.toNat) = s := ⟨_, rfl⟩
 obtain ⟨v, hv⟩ : ∃ s, bs (decT q2) = s := ⟨_, rfl⟩
 obtain ⟨k6, k7⟩ := cat (u := sd) hs hl (by rw [hDD]; exact hsd) (by rw [List.length_replicate]; omega)
 have k1 : sd.extract 0 p.toNat = t := by rw [← hsd, bs_to]; exact ht
 have k2 : sd.extract p.toNat sd.size = u := by rw [← hsd, bs_from]; exact hu
 have k3 : (0 : Int) ≤ p := by omega
 have k4 : p ≤ (sd.size : Nat) := by rw [← hsd, bs_size]; omega
 have k8 : (d.length : Int) = (s.size : Nat) := by rw [← hs, bs_size]
 rw [k8] at W7
 rw [hb1, hb2, ht, hu, hv, hr] at HJ
 rw [hv] at HI
 rw [hl] at HZ
 rw [hs, hr]
 have W8 := wrp (x := e - 1) (y := e - 1) (by omega)
 have hlit : x = 0 → p = 1 ∧ q2 = 0 := by omega
 clear hb1 hb2 hs hr ht hu hv hl hsd hd he he2 hxb lx HT HB0 hp hr2 hr3 hq1 hq2 hg hD hDD k8 m2 m3
 obtain ⟨w8, x8⟩ := W8.out
 obtain ⟨w2, x2⟩ := W2.out
 obtain ⟨w4, x4⟩ := W4.out
 obtain ⟨w5, x5⟩ := W5.out
 obtain ⟨w6, x6⟩ := W6.out
 obtain ⟨w7, x7⟩ := W7.out
 obtain ⟨w1, x1⟩ := W1.out
 obtain ⟨w3, x3⟩ := W3.out
 clear W1 W2 W3 W4 W5 W6 W7 W8
 cases z with
 | true =>
  have hx0 : x = 0 := hx.symm
  obtain ⟨rfl, rfl⟩ := hlit hx0
  subst hx0
  replace k1 : sd.extract 0 1 = t := k1
  replace k2 : sd.extract 1 sd.size = u := k2
  clear hx hlit w1 x1 w2 x2 w3 x3 w4 x4 w5 x5 w6 x6 hr1 m1
  go_enter Tryz.func58, Tryz.ntmps58
  go_upto_region 6 with (go_at_call 53; (with_reducible refine (HZ.out _).mono ?_); rintro q w2 ⟨rfl, hb⟩; replace HB := bt_ HB hb; clear hb)
  go_region_held3 (fun w' => Below w.heap.size w w')
   (first | assumption | exact HB.out | exact below_drew (by assumption) | exact below_drew HB.out | exact below_alloc HB.out _ | exact below_drew (below_alloc HB.out _) | exact below_alloc (by assumption) _ | exact below_drew (below_alloc (by assumption) _) | exact Below.trans (by assumption) (hb_.mono (Below.size (by assumption))))
   (first | (go_at_call 51; (refine (HI.out _ (by assumption)).mono ?_); rintro q w2 ⟨rfl, hb_⟩) | (go_at_call 50; (refine (HJ.out _ _ (by repeat (first | exact Below.refl _ _ | apply below_drew))).mono ?_); rintro q w2 ⟨rfl, hb_⟩))
  go_wp2
  go_ret
  exact ⟨rfl, by assumption⟩
 | false =>
  have hx0 : e - 1 = x := hx
  rw [hx0] at w8 x8
  have w9 : wrap64 (e - 1) = x := by rw [hx0]; exact w8
  have x9 : IntKind.i64.wrap (e - 1) = x := (i64_w _).trans w9
  clear hx hx0 hlit
  go_enter Tryz.func58, Tryz.ntmps58
  go_upto_region 6 with (go_at_call 53; (with_reducible refine (HZ.out _).mono ?_); rintro q w2 ⟨rfl, hb⟩; replace HB := bt_ HB hb; clear hb)
  go_region_held3 (fun w' => Below w.heap.size w w')
   (first | assumption | exact HB.out | exact below_drew (by assumption) | exact below_drew HB.out | exact below_alloc HB.out _ | exact below_drew (below_alloc HB.out _) | exact below_alloc (by assumption) _ | exact below_drew (below_alloc (by assumption) _) | exact Below.trans (by assumption) (hb_.mono (Below.size (by assumption))))
   (first | (go_at_call 51; (refine (HI.out _ (by assumption)).mono ?_); rintro q w2 ⟨rfl, hb_⟩) | (go_at_call 50; (refine (HJ.out _ _ (by repeat (first | exact Below.refl _ _ | apply below_drew))).mono ?_); rintro q w2 ⟨rfl, hb_⟩))
  go_wp2
  go_ret
  exact ⟨rfl, by assumption⟩
theorem engV_len {d : List UInt8} {e : Int} {z : Bool} (hd : d.length ≤ 17) (he : -335 ≤ e) (he2 : e ≤ 343) : (engV d e z).length ≤ 1000 := by
 unfold engV
 obtain ⟨x, hx⟩ : ∃ x : Int, (if z then 0 else e - 1) = x := ⟨_, rfl⟩
 have hxb : -1001 ≤ x ∧ x ≤ 990 := by rw [← hx]; split <;> omega
 rw [hx]
 have := decT_le (x := x - (x % 3 + 1) + 1) (by omega) (by omega)
 unfold engW engD
 simp
 omega
set_option maxRecDepth 100000 in
theorem d_Engineer (w0 : World) (HT : Pow w0) (w : World) (HB0 : Below w0.heap.size w0 w) (a : Nat) (ha : a < 18446744073709551616) (n : Int) : Calls Tryz.prog 23 #[.int .u64 (a : Int), .int .i64 n] w fun x w' => x = .returned (.string (bs (shownV a (engV (repText a (many n)) (repExp a (many n)) (zero1 (repText a (many n))))))) ∧ Below w.heap.size w w' := by
 obtain ⟨hm1, hm2⟩ := many_bound n
 have key : Calls Tryz.prog 48 #[.int .u64 (a : Int), .int .i64 n, .func (.func 58) #[] #[]] w fun x w' => x = .returned (.string (bs (shownV a (engV (repText a (many n)) (repExp a (many n)) (zero1 (repText a (many n))))))) ∧ Below w.heap.size w w' := by
  unfold shownV
  cases hf : ffin a with
  | false => exact d_shown_odd w a ha hf n 58
  | true =>
   have hl := repText_size hf hm1
   obtain ⟨b1, b2⟩ := repExp_bound hf (many n)
   exact d_shown_engineer w a ha hf n _ (Nat.le_trans (engV_len (by omega) b1 b2) (by decide)) w (Below.refl _ _) (fun w' h => d_engineer w0 HT w' (HB0.trans (h.mono HB0.size)) _ _ _ _ (by omega) (by omega) (by omega))
 have HK := md_ key
 obtain ⟨u, hu⟩ : ∃ z, bs (shownV a (engV (repText a (many n)) (repExp a (many n)) (zero1 (repText a (many n))))) = z := ⟨_, rfl⟩
 obtain ⟨aa, haa⟩ : ∃ z : Int, (a : Int) = z := ⟨_, rfl⟩
 rw [hu, haa] at HK
 rw [hu, haa]
 clear key hu haa ha hm1 hm2 HT HB0
 go_enter Tryz.func23, Tryz.ntmps23
 go_wp2_with (go_at_call 48; (with_reducible refine HK.out.mono ?_); rintro q w' ⟨rfl, hb⟩; have HB := md_ hb; clear hb)
 go_ret
 exact ⟨rfl, HB.out⟩
end Go.Proofs.YtdoeigngpemcgaaGreatDoor.Dec
namespace Go.Proofs.YtdoeigngpemcgaaGreatDoor.Dec
open Go.RowKit Go.Div PNat Go.Proofs.YtdoeigngpemcgaaGreatDoor.Pure YtdoeigngpemcgaaGreatDoorW.PrintWords YtdoeigngpemcgaaGreatDoorW.PrintLast YtdoeigngpemcgaaGreatDoorW.PrintMore
theorem one_V (W : World) (x : Int) : Kd.V (Kd.int .u32) 35 (W.alloc (.cells #[.int .u32 x] 35)) 0 (fun _ => True) (.slice (some ⟨W.heap.size, 0, none⟩) 1 1) [x] := by
 have h : Kd.R (Kd.int .u32) 35 (W.alloc (.cells #[.int .u32 x] 35)) W.heap.size (fun _ => True) (.slice (some ⟨W.heap.size, 0, none⟩) 1 1) [x] :=
  ⟨fun _ _ => trivial, [.int .u32 x], World.ownsRow_lit W _ 1 (Nat.le_refl _) (by simp [maxLen]) rfl, Reps.one (show Kd.M (Kd.int .u32) _ _ _ x [.int .u32 x] from rfl) (Reps.none _ _)⟩
 exact Kd.V_mono (Kd.V_map (Kd.R_V (base' := 0) h) (fun _ hf => hf)) (fun _ _ => trivial)
set_option maxRecDepth 100000 in
theorem r_small (w : World) {v : Value} {a : Nat} (h0 : Nm w v a) (fa : Fit a) (d : Nat) (hd0 : 0 < d) (hd : d < 4294967296) :
  Calls Tryz.prog 142 #[v, .int .u32 (d : Int)] w fun e w' => ∃ q r, e = .returned (.tuple #[q, r]) ∧ Nm w' q (a / d) ∧ Nm w' r (a % d) ∧ Below w.heap.size w w' := by
 obtain ⟨A, c, rfl, hlc, hC, _⟩ := h0.open
 obtain ⟨la, hla⟩ : ∃ l, Num.wordsN a = l := ⟨_, rfl⟩
 have hok := Num.wordsN_ok a
 have hval := Num.wordsN_val a
 have hlen : (Num.wordsN a).length ≤ 2000 := fa
 rw [hla] at hC hlc hok hval hlen ⊢
 obtain ⟨n, hn⟩ : ∃ n, la.length = n := ⟨_, rfl⟩
 rw [hn] at hC hlc hlen ⊢
 have HC := md_ hC
 have HOK := md_ hok
 have HN := md_ (show la.length = n ∧ n ≤ 2000 from ⟨hn, hlen⟩)
 have HV := md_ hval
 have HD := md_ (show 0 < d ∧ d < 4294967296 from ⟨hd0, hd⟩)
 have HB := md_ (Below.refl w.heap.size w)
 obtain ⟨dd, hdd⟩ : ∃ z : Int, (d : Int) = z := ⟨_, rfl⟩
 have HDD := md_ hdd
 have w1 : wrap64 ((n : Int) - 1) = (n : Int) - 1 := i64_id (by omega) (by omega)
 have w2 : IntKind.i64.wrap ((n : Int) - 1) = (n : Int) - 1 := (i64_w _).trans w1
 have o1 : (0 : Int) ≤ (n : Int) := by omega
 have o2 : ((n : Int)).toNat ≤ 70368744177664 := by omega
 have p1 := decide_eq_true o1
 have p2 := decide_eq_true o2
 rw [hdd]
 clear h0 fa hla hok hval hlen hn hlc hC hd0 hd hdd
 go_enter Tryz.func142, Tryz.ntmps142
 go_wp2_with ((with_reducible refine gate_dst (N := 11) rfl ?_); refine Kd.R_make (Kd.int .u32) _ 35 rfl (N := 11) rfl 58 _ _ rfl (n : Int) rfl rfl Tryz.underlying58 (.int .u32 0) 4 info35 rfl (by decide) (by omega) 0 (ok := fun _ => True) (okp := fun _ => True) rfl (fun _ hk => hk) trivial o1 (Nat.le_trans (Nat.mul_le_mul_right _ o2) (by omega)) (Below.refl _ _) (Nat.le_refl _) ?_; intro vq wq ho hb hg_ hnew_; clear hg_ hnew_; have HO := md_ (Kd.R_lower ho (below_size HB.out)); have n1_ := md_ (below_step HB.out hb); clear HB; have HB := n1_; clear n1_; clear hb ho)
 rw [Int.toNat_natCast] at HO
 have hrep : ∀ z ∈ List.replicate n (0 : Int), 0 ≤ z ∧ z < 4294967296 := fun z hz => by rw [List.eq_of_mem_replicate hz]; decide
 have hend : hi (List.replicate n 0) n = 0 := by
  have := hi_end (List.replicate n 0)
  rw [List.length_replicate] at this
  exact this
 have hendA : hi la n = 0 := by rw [← HN.out.1]; exact hi_end la
 go_loopg [7, 8] n (fun kq v7 v8 wr => ∃ (x : List Int) (r : Nat), v7 = .int .u64 (r : Int) ∧ v8 = .int .i64 ((kq : Int) - 1) ∧ Aside0 (kq ≤ n ∧ x.length = n ∧ Num.okW x) ∧ Aside0 (hi x kq = hi la kq / d ∧ r = hi la kq % d) ∧ Aside0 (Kd.R (Kd.int .u32) 35 wr w.heap.size (fun _ => True) vq x) ∧ Aside0 (Below w.heap.size w wr))
 case atStart => exact ⟨List.replicate n 0, 0, rfl, by first | rfl | (rw [w1]) | (rw [w2]), ⟨Nat.le_refl _, List.length_replicate, hrep⟩, ⟨by rw [hend, hendA, Nat.zero_div, Nat.zero_mod]; exact ⟨rfl, rfl⟩⟩, HO, HB⟩
 case round =>
  clear HO HB hrep hend hendA
  obtain ⟨x, r, rfl, h8, HQ, HI, HO, HB⟩ := hrel
  cases gk with
  | zero =>
   rw [show ((0 : Nat) : Int) - 1 = -1 from rfl] at h8
   subst h8
   have hq : Num.valN x = a / d := by have := HI.out.1; rw [hi_zero, hi_zero, HV.out] at this; exact this
   have hr : r = a % d := by have := HI.out.2; rw [hi_zero, HV.out] at this; exact this
   have HN1 := md_ (fun (wq : World) (hB : Below w.heap.size w wq) (hx : Kd.R (Kd.int .u32) 35 wq w.heap.size (fun _ => True) vq x) => r_NormV (Kd.V_mono (Kd.V_map (Kd.R_V (base' := 0) hx) (fun _ hf => hf)) (fun _ _ => trivial)) HQ.out.2.2 (by have := HQ.out; have := HN.out; omega))
   rw [hq] at HN1
   have hrd : r < d := by rw [hr]; exact Nat.mod_lt _ HD.out.1
   obtain ⟨rr, hrr⟩ : ∃ z : Int, (r : Int) = z := ⟨_, rfl⟩
   have HN2 := md_ (fun (W : World) => r_NormV (one_V W rr) (by intro z hz; rw [List.mem_singleton.1 hz]; have := HD.out; omega) (by simp))
   rw [show Num.valN [rr] = a % d by rw [← hr]; simp [Num.valN]; omega] at HN2
   have u1 : IntKind.u32.wrap rr = rr := by rw [IntKind.wrap_u32]; have := HD.out; omega
   rw [hrr]
   clear hrr hrd hr hq
   go_wp2_with (first
    | (go_at_call 99; (with_reducible refine (HN1.out _ HB.out HO.out).mono ?_); rintro e w' ⟨q1, rfl, hr, hb⟩; have hq1 := md_ hr; replace HB := bt_ HB hb; clear hb hr)
    | (go_at_call 99; (refine (HN2.out _).mono ?_); rintro e w' ⟨q2, rfl, hr, hb⟩; have hq2 := md_ hr; replace hq1 := md_ ((hq1.out.below (below_alloc (Below.refl _ _) _)).below hb); replace HB := md_ (below_step (below_alloc HB.out _) hb); clear hb hr))
   go_ret2
   exact ⟨_, _, rfl, hq1.out, hq2.out, HB.out⟩
  | succ i =>
   rw [show ((i + 1 : Nat) : Int) - 1 = (i : Int) by omega] at h8
   subst h8
   have hin : i < n := by have := HQ.out.1; omega
   have hil : i < la.length := by have := HN.out.1; omega
   have hix : i < x.length := by have := HQ.out.2.1; omega
   obtain ⟨g1, g2⟩ := get_nat HOK.out hil
   obtain ⟨wi, hwi⟩ : ∃ z : Nat, (la[i]).toNat = z := ⟨_, rfl⟩
   rw [hwi] at g1 g2
   obtain ⟨ad, hA, hz0⟩ := Kd.at_int HC.out (i : Int) (by omega) (by omega)
   subst hA
   have hrd : rd la (i : Int) = (wi : Int) := by
    unfold rd
    rw [Int.toNat_natCast, List.getD_eq_getElem?_getD, List.getElem?_eq_getElem hil]
    exact g1.symm
   rw [hrd, Int.toNat_natCast] at hz0
   have hz := pw_cell_below HB.out hz0
   obtain ⟨go, co, rfl, gb, gl, cl, HG⟩ := Kd.R_form HO.out (by omega)
   obtain ⟨hx, hf⟩ := Kd.R_celln 0 HO.out (i : Int) (by omega) (by omega)
   rw [Int.toNat_natCast] at hx hf
   obtain ⟨y, hy⟩ : ∃ z : Nat, (r * 4294967296 + wi) / d = z := ⟨_, rfl⟩
   obtain ⟨r2, hr2⟩ : ∃ z : Nat, (r * 4294967296 + wi) % d = z := ⟨_, rfl⟩
   have hrl : r < d := by rw [HI.out.2]; exact Nat.mod_lt _ HD.out.1
   have hyl : y < 4294967296 := by rw [← hy]; exact step_lt hrl g2
   have c1 : (0 : Int) ≤ (i : Int) := by omega
   have c2 : (i : Int) < (n : Int) := by omega
   have c3 : (i : Int) < (x.length : Int) := by omega
   obtain ⟨s, hs⟩ : ∃ z : Int, ((r * 4294967296 + wi : Nat) : Int) = z := ⟨_, rfl⟩
   obtain ⟨wv, hwv⟩ : ∃ z : Int, (wi : Int) = z := ⟨_, rfl⟩
   obtain ⟨rv, hrv⟩ : ∃ z : Int, (r : Int) = z := ⟨_, rfl⟩
   obtain ⟨yv, hyv⟩ : ∃ z : Int, (y : Int) = z := ⟨_, rfl⟩
   obtain ⟨r2v, hr2v⟩ : ∃ z : Int, (r2 : Int) = z := ⟨_, rfl⟩
   have hdd := HDD.out
   have b1 : bits .or .u64 (rv * 4294967296) wv = s := by
    rw [← hrv, ← hwv, show (r : Int) * 4294967296 = ((r * 4294967296 : Nat) : Int) by omega, u64_or_nat _ _ (by have := HD.out; omega) (by omega), ← hs]
    congr 1
    have p32 : (2 : Nat) ^ 32 = 4294967296 := rfl
    exact nat_join 32 (r * 4294967296) wi (by rw [p32]; exact Nat.mul_mod_left _ _) (by rw [p32]; exact g2)
   have b2 : IntKind.u64.wrap (rv * 4294967296) = rv * 4294967296 := by rw [IntKind.wrap_u64]; have := HD.out; omega
   have d1 : IntKind.u64.wrap dd = dd := by rw [IntKind.wrap_u64]; have := HD.out; omega
   have d2 : s.tdiv dd = yv := by
    rw [← hs, ← hdd, ← hyv, ← hy]
    exact (Int.ofNat_tdiv _ _).symm
   have d5 : s.tmod dd = r2v := by
    rw [← hs, ← hdd, ← hr2v, ← hr2]
    exact (Int.ofNat_tmod _ _).symm
   have d9 : ¬ dd = 0 := by have := HD.out; omega
   have d10 : IntKind.u64.wrap wv = wv := by rw [IntKind.wrap_u64]; omega
   have d3 : IntKind.u64.wrap yv = yv := by rw [IntKind.wrap_u64]; omega
   have d4 : IntKind.u32.wrap yv = yv := by rw [IntKind.wrap_u32]; omega
   have d6 : yv % 4294967296 = yv := by omega
   have d7 : wrap64 ((i : Int) - 1) = (i : Int) - 1 := by have := HN.out; rw [i64_id (by omega) (by omega)]
   have d8 : IntKind.i64.wrap ((i : Int) - 1) = (i : Int) - 1 := (i64_w _).trans d7
   have HP := md_ (Kd.R_putg HO.out (i : Int) yv)
   rw [Int.toNat_natCast] at HP
   have GB := md_ gb
   have HQ2 := md_ (show i ≤ n ∧ (x.set i yv).length = n ∧ Num.okW (x.set i yv) from ⟨by omega, by rw [List.length_set]; exact HQ.out.2.1, okW_set HQ.out.2.2 i (by omega)⟩)
   have HI2 := md_ (show hi (x.set i yv) i = hi la i / d ∧ r2 = hi la i % d from by
    obtain ⟨s1, s2⟩ := step_div (h := hi la (i + 1)) (w := wi) HD.out.1
    rw [hi_set hix, hi_step hil, hwi, HI.out.1, s1, s2, ← HI.out.2, hy, hr2]
    refine ⟨?_, rfl⟩
    congr 1
    omega)
   rw [hwv] at hz
   rw [hrv]
   have HR2 := md_ hr2v
   clear hs hwv hrv hyv hr2v hdd g1 g2 hwi hrd hz0 hy hr2 hrl hyl gb gl cl HG hix hil hin HI HO
   go_wp2
   go_roundg i
   case measure => omega
   case rel => exact ⟨x.set i yv, r2, by rw [HR2.out], by first | rfl | rw [d7] | rw [d8], HQ2, HI2, ⟨HP.out.1⟩, ⟨below_set HB.out GB.out⟩⟩
def Own (w : World) (base : Nat) (v : Value) (n : Nat) : Prop := Kd.R (Kd.int .u32) 35 w base (fun _ => True) v (Num.wordsN n)
theorem Own.nm {w : World} {base : Nat} {v : Value} {n : Nat} (h : Own w base v n) : Nm w v n := Nm.of_R h
theorem Own.below {w w1 : World} {base : Nat} {v : Value} {n : Nat} (h : Own w base v n) (hb : Below w.heap.size w w1) : Own w1 base v n := Kd.R_below h hb
theorem Own.lower {w : World} {base b : Nat} {v : Value} {n : Nat} (h : Own w base v n) (hb : b ≤ base) : Own w b v n := Kd.R_lower h hb
theorem R_keep {w w1 : World} {base g : Nat} {v : Value} {xs : List Int} (h : Kd.R (Kd.int .u32) 35 w base (fun _ => True) v xs) (hg : w.grownBy w1 (some g)) (hb : g < base) : Kd.R (Kd.int .u32) 35 w1 base (fun _ => True) v xs :=
 Kd.R_mono (Kd.R_grown (Kd.R_bound h) hg (fun k hk e => by injection e with e; have := hk.2.1; omega)) (fun _ _ => trivial)
theorem r_NormO {w : World} {v : Value} {l : List Int} (h : Kd.V (Kd.int .u32) 35 w 0 (fun _ => True) v l) (ok : Num.okW l) (hl : l.length ≤ 100000) :
  Calls Tryz.prog 99 #[v] w fun e w' => ∃ r, e = .returned r ∧ Own w' w.heap.size r (Num.valN l) ∧ Below w.heap.size w w' := by
 obtain ⟨A, c, rfl⟩ := Kd.V_slice h
 obtain ⟨_, h2, h3⟩ := Kd.V_reads' h
 have he := ev_rnorm l (by omega)
 rw [Num.trim_words ok] at he
 obtain ⟨k, hk⟩ := Ev.at he
 refine (bobbinref2_Norm.calls k _ _ _ _ w h3 h2 hk).mono ?_
 rintro e w' ⟨v, rfl, h1, h2⟩
 exact ⟨v, rfl, h1, h2⟩
theorem one_R (W : World) (x : Int) : Kd.R (Kd.int .u32) 35 (W.alloc (.cells #[.int .u32 x] 35)) W.heap.size (fun _ => True) (.slice (some ⟨W.heap.size, 0, none⟩) 1 1) [x] :=
 ⟨fun _ _ => trivial, [.int .u32 x], World.ownsRow_lit W _ 1 (Nat.le_refl _) (by simp [maxLen]) rfl, Reps.one (show Kd.M (Kd.int .u32) _ _ _ x [.int .u32 x] from rfl) (Reps.none _ _)⟩
theorem one_Nm (W : World) (x : Nat) (h : x < 4294967296) (h0 : x ≠ 0) : Nm (W.alloc (.cells #[.int .u32 (x : Int)] 35)) (.slice (some ⟨W.heap.size, 0, none⟩) 1 1) x := by
 have hw : Num.wordsN x = [(x : Int)] := by
  rw [Num.wordsN_pos (by omega), Nat.mod_eq_of_lt h, Nat.div_eq_of_lt h, Num.wordsN_zero]
 unfold Nm
 rw [hw]
 exact one_V W x
set_option maxRecDepth 100000 in
theorem r_Divide_one {w : World} {v u : Value} {a b : Nat} (h0 : Nm w v a) (h1 : Nm w u b) (fa : Fit a) (hb0 : b ≠ 0) (hb : b < 4294967296) :
  Calls Tryz.prog 103 #[v, u] w fun e w' => ∃ q r, e = .returned (.tuple #[q, r, .int .i64 0]) ∧ Nm w' q (a / b) ∧ Nm w' r (a % b) ∧ Below w.heap.size w w' := by
 have fb : Fit b := fit_lt (b := 32) hb (by omega)
 have L0 := md_ (r_large h0 fa)
 have L1 := md_ (r_large h1 fb)
 have T0 := md_ (r_trimmed h0)
 have T1 := md_ (r_trimmed h1)
 have S := md_ (r_small w h0 fa b (Nat.pos_of_ne_zero hb0) hb)
 have hw : Num.wordsN b = [(b : Int)] := by
  rw [Num.wordsN_pos (by omega), Nat.mod_eq_of_lt hb, Nat.div_eq_of_lt hb, Num.wordsN_zero]
 have hlen : (Num.wordsN b).length = 1 := by rw [hw]; rfl
 obtain ⟨A1, c1, rfl, l1, C1, _⟩ := h1.open
 rw [hlen] at L1 T1 l1 C1
 rw [hlen]
 obtain ⟨ad, hA, hz⟩ := head_word (L := 1) (by rw [hlen] at h1; exact h1) hlen (by decide)
 subst hA
 rw [Nat.mod_eq_of_lt hb] at hz
 obtain ⟨bb, hbb⟩ : ∃ z : Int, (b : Int) = z := ⟨_, rfl⟩
 rw [hbb] at hz S
 obtain ⟨A0, c0, rfl, _, _, _⟩ := h0.open
 clear h0 h1 fa hb0 hb fb hw hlen l1 C1 hbb
 go_enter Tryz.func103, Tryz.ntmps103
 go_wp2_with (first
  | (go_at_call 100; (with_reducible refine L0.out.mono ?_); rintro e w' ⟨rfl, rfl⟩)
  | (go_at_call 100; (with_reducible refine L1.out.mono ?_); rintro e w' ⟨rfl, rfl⟩)
  | (go_at_call 101; (with_reducible refine T0.out.mono ?_); rintro e w' ⟨rfl, rfl⟩)
  | (go_at_call 101; (with_reducible refine T1.out.mono ?_); rintro e w' ⟨rfl, rfl⟩)
  | (go_at_call 142; (with_reducible refine S.out.mono ?_); rintro e w' ⟨q, r, rfl, hq, hr, hb⟩; have n0_ := md_ hq; have n1_ := md_ hr; have n2_ := md_ hb; clear hq hr hb; have hq := n0_; have hr := n1_; have HB := n2_; clear n0_ n1_ n2_))
 go_ret3
 exact ⟨_, _, rfl, hq.out, hr.out, HB.out⟩
end Go.Proofs.YtdoeigngpemcgaaGreatDoor.Dec
namespace Go.Div
open Go.Proofs.YtdoeigngpemcgaaGreatDoor
def wd (l : List Int) (i : Nat) : Nat := (l.getD i 0).toNat
theorem wd_in {l : List Int} {i : Nat} (h : i < l.length) : wd l i = (l[i]).toNat := by
 unfold wd
 rw [List.getD_eq_getElem?_getD, List.getElem?_eq_getElem h]
 rfl
theorem wd_out {l : List Int} {i : Nat} (h : l.length ≤ i) : wd l i = 0 := by
 unfold wd
 rw [List.getD_eq_getElem?_getD, List.getElem?_eq_none h]
 rfl
theorem take_wd (l : List Int) (i : Nat) : Num.valN (l.take (i + 1)) = Num.valN (l.take i) + wd l i * 4294967296 ^ i := by
 rcases Nat.lt_or_ge i l.length with c | c
 ·rw [wd_in c]; exact valN_take c
 ·rw [wd_out c, List.take_of_length_le (by omega), List.take_of_length_le c, Nat.zero_mul, Nat.add_zero]
theorem okW_snoc {l : List Int} (ok : Num.okW l) {y : Int} (h : 0 ≤ y ∧ y < 4294967296) : Num.okW (l ++ [y]) := by
 intro z hz
 rcases List.mem_append.1 hz with g | g
 ·exact ok z g
 ·rw [List.mem_singleton.1 g]; exact h
def SubA (la lb : List Int) (i c : Nat) (o : List Int) : Prop :=
 o.length = i ∧ Num.okW o ∧ c ≤ 1 ∧ Num.valN (la.take i) + c * 4294967296 ^ i = Num.valN o + Num.valN (lb.take i)
theorem sub_start (la lb : List Int) : SubA la lb 0 0 [] := ⟨rfl, Num.okW_nil, by decide, by rw [List.take_zero, List.take_zero]; rfl⟩
theorem sub_step {la lb o : List Int} {i c d : Nat} {y : Int} (h : SubA la lb i c o) (hy : 0 ≤ y ∧ y < 4294967296) (hd : d ≤ 1) (e : (wd la i : Int) - c - wd lb i + 4294967296 * d = y) :
  SubA la lb (i + 1) d (o ++ [y]) := by
 obtain ⟨h1, h2, h3, h4⟩ := h
 refine ⟨by rw [List.length_append, h1]; rfl, okW_snoc h2 hy, hd, ?_⟩
 rw [Num.val_snoc, h1, take_wd, take_wd, Nat.pow_succ]
 generalize 4294967296 ^ i = P at *
 have e2 : wd la i + 4294967296 * d = y.toNat + c + wd lb i := by omega
 have e3 : wd la i * P + d * (P * 4294967296) = y.toNat * P + c * P + wd lb i * P := by
  rw [← Nat.add_mul, ← Nat.add_mul, ← e2, Nat.add_mul, Nat.mul_comm P, ← Nat.mul_assoc, Nat.mul_comm d]
 rw [Nat.mul_comm P y.toNat] at *
 omega
theorem sub_end {la lb o : List Int} {i c : Nat} (h : SubA la lb i c o) (ha : la.length ≤ i) (hb : lb.length ≤ i) (hle : Num.valN lb ≤ Num.valN la) : Num.valN o = Num.valN la - Num.valN lb := by
 obtain ⟨h1, h2, h3, h4⟩ := h
 rw [List.take_of_length_le ha, List.take_of_length_le hb] at h4
 have h5 := Num.valN_lt h2
 rw [h1] at h5
 have h6 : c = 0 := by
  rcases Nat.eq_zero_or_pos c with z | z
  ·exact z
  ·exfalso
   have : c = 1 := by omega
   subst this
   omega
 subst h6
 omega
end Go.Div
namespace Go.Proofs.YtdoeigngpemcgaaGreatDoor.Dec
open Go.RowKit Go.Div PNat Go.Proofs.YtdoeigngpemcgaaGreatDoor.Pure YtdoeigngpemcgaaGreatDoorW.PrintWords YtdoeigngpemcgaaGreatDoorW.PrintLast YtdoeigngpemcgaaGreatDoorW.PrintMore
set_option maxRecDepth 100000 in
theorem r_SubO {w : World} {v u : Value} {a b : Nat} (h0 : Nm w v a) (h1 : Nm w u b) (fa : Fit a) (fb : Fit b) (hle : b ≤ a) :
  Calls Tryz.prog 143 #[v, u] w fun e w' => ∃ r, e = .returned (.tuple #[r, .int .i64 0]) ∧ Own w' w.heap.size r (a - b) ∧ Below w.heap.size w w' := by
 have HCM := md_ (r_Compare h0 h1 fa fb)
 have hcm : decide (Num.cmpN a b < 0) = false := by
  rcases Nat.eq_or_lt_of_le hle with z | z
  ·subst z; rw [cmp_eq]; rfl
  ·rw [cmp_gt z]; rfl
 have T1 := md_ (fun (w : World) (h : Nm w u b) => r_trimmed h)
 have HU := md_ h1
 have hlen2 : (Num.wordsN b).length ≤ (Num.wordsN a).length := len_le (Nat.le_refl _) hle
 obtain ⟨A, c, rfl, hlc, hC, _⟩ := h0.open
 obtain ⟨A1, cb, rfl, hlc1, hC1, _⟩ := h1.open
 obtain ⟨cm, hcmm⟩ : ∃ z, Num.cmpN a b = z := ⟨_, rfl⟩
 rw [hcmm] at HCM hcm
 obtain ⟨la, hla⟩ : ∃ l, Num.wordsN a = l := ⟨_, rfl⟩
 obtain ⟨lb, hlb⟩ : ∃ l, Num.wordsN b = l := ⟨_, rfl⟩
 have hok := Num.wordsN_ok a
 have hok1 := Num.wordsN_ok b
 have hval := Num.wordsN_val a
 have hval1 := Num.wordsN_val b
 have hlen : (Num.wordsN a).length ≤ 2000 := fa
 have hlen1 : (Num.wordsN b).length ≤ 2000 := fb
 rw [hla] at hC hok hval hlen hlen2 HCM
 rw [hlb] at hC1 hok1 hval1 hlen1 hlen2 HCM T1 HU
 rw [hla, hlb]
 obtain ⟨n, hn⟩ : ∃ n, la.length = n := ⟨_, rfl⟩
 obtain ⟨m, hm⟩ : ∃ n, lb.length = n := ⟨_, rfl⟩
 rw [hn] at hC hlen hlen2 HCM
 rw [hm] at hC1 hlen1 hlen2 HCM T1 HU
 rw [hn, hm]
 have HC := md_ hC
 have HC1 := md_ hC1
 have HOK := md_ (show Num.okW la ∧ Num.okW lb from ⟨hok, hok1⟩)
 have HN := md_ (show la.length = n ∧ lb.length = m ∧ n ≤ 2000 ∧ m ≤ n by omega)
 have HV := md_ (show Num.valN la = a ∧ Num.valN lb = b ∧ b ≤ a from ⟨hval, hval1, hle⟩)
 have HB := md_ (Below.refl w.heap.size w)
 have HZ := md_ (Nat.le_refl w.heap.size)
 clear h0 h1 hlc hlc1 hC hC1 hla hlb hok hok1 hval hval1 hlen hlen1 hlen2 hn hm fa fb hle hcmm
 go_enter Tryz.func143, Tryz.ntmps143
 go_wp2_with (first
  | (go_at_call 102; (with_reducible refine HCM.out.mono ?_); rintro q w' ⟨rfl, hb⟩; replace HU := md_ (HU.out.below hb); replace HB := bt_ HB hb; clear hb)
  | (go_at_call 101; (with_reducible refine (T1.out _ HU.out).mono ?_); rintro q w' ⟨rfl, hw⟩; obtain rfl := hw.symm))
 go_loopg [6, 7, 8] n (fun kq v6 v7 v8 wr => ∃ (i cr : Nat) (x : List Int), v7 = .int .u64 (cr : Int) ∧ v8 = .int .i64 (i : Int) ∧ Aside0 (i + kq = n) ∧ Aside0 (SubA la lb i cr x) ∧ Aside0 (Kd.R (Kd.int .u32) 35 wr w.heap.size (fun _ => True) v6 x) ∧ Aside0 (Below w.heap.size w wr))
 case atStart => exact ⟨0, 0, [], rfl, rfl, ⟨Nat.zero_add n⟩, ⟨sub_start la lb⟩, ⟨Kd.R_nil _ _ _ _ _⟩, HB⟩
 case round =>
  clear HB HU
  obtain ⟨i, cr, x, rfl, rfl, HK, HS, HO, HB⟩ := hrel
  cases gk with
  | zero =>
   have hk : i = n := HK.out
   have hnn := HN.out
   have q2 := sub_end HS.out (by omega) (by omega) (by rw [HV.out.1, HV.out.2.1]; exact HV.out.2.2)
   rw [HV.out.1, HV.out.2.1] at q2
   have hxl := HS.out.1
   have HN1 := md_ (fun (wq : World) (vv : Value) (hx : Kd.R (Kd.int .u32) 35 wq w.heap.size (fun _ => True) vv x) => r_NormO (V_of hx) HS.out.2.1 (by omega))
   rw [q2] at HN1
   have d1 := decide_eq_false (show ¬ i < n by omega)
   clear hk hnn q2 hxl HK HS
   go_wp2_with (go_at_call 99; (with_reducible refine (HN1.out _ _ HO.out).mono ?_); rintro e w' ⟨q1, rfl, hr, hb⟩; have hq1 := md_ (hr.lower HB.out.size); replace HB := bt_ HB hb; clear hb hr)
   go_ret2
   exact ⟨_, rfl, hq1.out, HB.out⟩
  | succ j =>
   have hin : i < n := by have := HK.out; omega
   by_cases hb : i < m
   ·have hila : i < la.length := by have := HN.out; omega
    obtain ⟨g1la, g2la⟩ := get_nat HOK.out.1 hila
    have hwla := wd_in hila
    rw [← hwla] at g1la g2la
    obtain ⟨xla, hxla⟩ : ∃ z : Nat, wd la i = z := ⟨_, rfl⟩
    rw [hxla] at g1la g2la
    obtain ⟨adla, hAla, hzla⟩ := Kd.at_int HC.out (i : Int) (by omega) (by have := HN.out; omega)
    subst hAla
    have hrla : rd la (i : Int) = (xla : Int) := by
     unfold rd
     rw [Int.toNat_natCast, List.getD_eq_getElem?_getD, List.getElem?_eq_getElem hila]
     exact g1la.symm
    rw [hrla, Int.toNat_natCast] at hzla
    have hyla := pw_cell_below HB.out hzla
    clear hrla hwla g1la hzla hila
    obtain ⟨vla, hvla⟩ : ∃ y : Int, (xla : Int) = y := ⟨_, rfl⟩
    rw [hvla] at hyla
    have ela : IntKind.u64.wrap vla = vla := by rw [IntKind.wrap_u64]; omega
    have hilb : i < lb.length := by have := HN.out; omega
    obtain ⟨g1lb, g2lb⟩ := get_nat HOK.out.2 hilb
    have hwlb := wd_in hilb
    rw [← hwlb] at g1lb g2lb
    obtain ⟨xlb, hxlb⟩ : ∃ z : Nat, wd lb i = z := ⟨_, rfl⟩
    rw [hxlb] at g1lb g2lb
    obtain ⟨adlb, hAlb, hzlb⟩ := Kd.at_int HC1.out (i : Int) (by omega) (by have := HN.out; omega)
    subst hAlb
    have hrlb : rd lb (i : Int) = (xlb : Int) := by
     unfold rd
     rw [Int.toNat_natCast, List.getD_eq_getElem?_getD, List.getElem?_eq_getElem hilb]
     exact g1lb.symm
    rw [hrlb, Int.toNat_natCast] at hzlb
    have hylb := pw_cell_below HB.out hzlb
    clear hrlb hwlb g1lb hzlb hilb
    obtain ⟨vlb, hvlb⟩ : ∃ y : Int, (xlb : Int) = y := ⟨_, rfl⟩
    rw [hvlb] at hylb
    have elb : IntKind.u64.wrap vlb = vlb := by rw [IntKind.wrap_u64]; omega
    have hwb : wd lb i = xlb := hxlb
    have hcr := HS.out.2.2.1
    have hxl := HS.out.1
    obtain ⟨d, hd⟩ : ∃ d : Nat, (if xla < cr + xlb then 1 else 0) = d := ⟨_, rfl⟩
    have hdd : (xla < cr + xlb ∧ d = 1) ∨ (cr + xlb ≤ xla ∧ d = 0) := by rw [← hd]; split <;> omega
    obtain ⟨yv, hyv⟩ : ∃ y : Int, (xla : Int) - cr - (xlb : Int) + 4294967296 * d = y := ⟨_, rfl⟩
    have hst := sub_step (y := yv) (d := d) HS.out (by omega) (by omega) (by rw [hxla, hwb]; exact hyv)
    obtain ⟨cv, hcv⟩ : ∃ y : Int, (cr : Int) = y := ⟨_, rfl⟩
    obtain ⟨dv, hdv⟩ : ∃ y : Int, (d : Int) = y := ⟨_, rfl⟩
    obtain ⟨tv1, htv1⟩ : ∃ y : Int, (vla - cv) % 18446744073709551616 = y := ⟨_, rfl⟩
    have f1 : IntKind.u64.wrap (vla - cv) = tv1 := by rw [IntKind.wrap_u64]; exact htv1
    obtain ⟨tv, htv⟩ : ∃ y : Int, (tv1 - vlb) % 18446744073709551616 = y := ⟨_, rfl⟩
    have f2 : IntKind.u64.wrap (tv1 - vlb) = tv := by rw [IntKind.wrap_u64]; exact htv
    have f3 : IntKind.u32.wrap tv = yv := by rw [IntKind.wrap_u32]; omega
    have f4 : tv % 4294967296 = yv := by omega
    have f5 : tv / 9223372036854775808 = dv := by omega
    have W1 := wrp (x := (i : Int) + 1) (y := ((i + 1 : Nat) : Int)) (by have := HN.out; omega)
    have c1 : (0 : Int) ≤ (i : Int) := by omega
    have d1 := decide_eq_true (show i < n by omega)
    have d2 := decide_eq_true (show i < m by omega)
    have d3 : (i : Int) < (n : Int) := by omega
    have d4 : (i : Int) < (m : Int) := by omega
    have HS1 := md_ (show x.length ≤ 2000 by have := HN.out; omega)
    have HST := md_ hst
    have HK2 := md_ (show i + 1 + j = n by have := HK.out; omega)
    have HNV := md_ hdv
    rw [hcv]
    clear hwb hcr hxl hd hdd hyv hst hcv hdv htv1 htv hvlb hxlb g2lb hvla hxla g2la HK HS
    obtain ⟨w1, w2⟩ := W1.out
    clear W1
    go_wp2_with (first
    | ((with_reducible refine gate_builtin (b := .append) (xs := #[.tmp 40, .tmp 43]) rfl ?_); at_builtin; refine Kd.R_append_rows (Kd.int .u32) (w0 := w) w.heap.size rfl (.tmp 40) (.tmp 43) 58 35 (.int .u32 0) 4 rfl Tryz.underlying58 info35 rfl (by decide) (by omega) _ x ([yv] : List Int) _ _ _ (fun _ => True) (fun _ => False) rfl rfl ?aO ?aR (fun _ _ h => h) (fun _ h => h.elim) ?aF ?aB ?aS ?aL ?_; (case aR => exact (Kd.V_reads' (one_V wr yv)).2.2); (case aB => exact below_alloc HB.out _); (case aF => exact (fun _ _ => trivial)); (case aO => exact Kd.R_alloc HO.out _); (case aS => exact below_size (below_alloc HB.out _)); (case aL => have := HS1.out; show (_ + 1) * 4 ≤ _; omega); intro v1 w5 ho hb hg hat; have HO2 := md_ ho; have HB2 := md_ hb; clear ho hb hg hat))
    go_roundg j
    case measure => omega
    case rel => exact ⟨i + 1, d, x ++ [yv], by rw [HNV.out], by first | rfl | rw [w1] | rw [w2], HK2, HST, HO2, HB2⟩
   ·have hila : i < la.length := by have := HN.out; omega
    obtain ⟨g1la, g2la⟩ := get_nat HOK.out.1 hila
    have hwla := wd_in hila
    rw [← hwla] at g1la g2la
    obtain ⟨xla, hxla⟩ : ∃ z : Nat, wd la i = z := ⟨_, rfl⟩
    rw [hxla] at g1la g2la
    obtain ⟨adla, hAla, hzla⟩ := Kd.at_int HC.out (i : Int) (by omega) (by have := HN.out; omega)
    subst hAla
    have hrla : rd la (i : Int) = (xla : Int) := by
     unfold rd
     rw [Int.toNat_natCast, List.getD_eq_getElem?_getD, List.getElem?_eq_getElem hila]
     exact g1la.symm
    rw [hrla, Int.toNat_natCast] at hzla
    have hyla := pw_cell_below HB.out hzla
    clear hrla hwla g1la hzla hila
    obtain ⟨vla, hvla⟩ : ∃ y : Int, (xla : Int) = y := ⟨_, rfl⟩
    rw [hvla] at hyla
    have ela : IntKind.u64.wrap vla = vla := by rw [IntKind.wrap_u64]; omega
    have hwb : wd lb i = 0 := wd_out (by have := HN.out; omega)
    have hcr := HS.out.2.2.1
    have hxl := HS.out.1
    obtain ⟨d, hd⟩ : ∃ d : Nat, (if xla < cr + 0 then 1 else 0) = d := ⟨_, rfl⟩
    have hdd : (xla < cr + 0 ∧ d = 1) ∨ (cr + 0 ≤ xla ∧ d = 0) := by rw [← hd]; split <;> omega
    obtain ⟨yv, hyv⟩ : ∃ y : Int, (xla : Int) - cr - 0 + 4294967296 * d = y := ⟨_, rfl⟩
    have hst := sub_step (y := yv) (d := d) HS.out (by omega) (by omega) (by rw [hxla, hwb]; exact hyv)
    obtain ⟨cv, hcv⟩ : ∃ y : Int, (cr : Int) = y := ⟨_, rfl⟩
    obtain ⟨dv, hdv⟩ : ∃ y : Int, (d : Int) = y := ⟨_, rfl⟩
    obtain ⟨tv1, htv1⟩ : ∃ y : Int, (vla - cv) % 18446744073709551616 = y := ⟨_, rfl⟩
    have f1 : IntKind.u64.wrap (vla - cv) = tv1 := by rw [IntKind.wrap_u64]; exact htv1
    have f3 : IntKind.u32.wrap tv1 = yv := by rw [IntKind.wrap_u32]; omega
    have f4 : tv1 % 4294967296 = yv := by omega
    have f5 : tv1 / 9223372036854775808 = dv := by omega
    have W1 := wrp (x := (i : Int) + 1) (y := ((i + 1 : Nat) : Int)) (by have := HN.out; omega)
    have c1 : (0 : Int) ≤ (i : Int) := by omega
    have d1 := decide_eq_true (show i < n by omega)
    have d2 := decide_eq_false (show ¬ i < m by omega)
    have d3 : (i : Int) < (n : Int) := by omega
    have HS1 := md_ (show x.length ≤ 2000 by have := HN.out; omega)
    have HST := md_ hst
    have HK2 := md_ (show i + 1 + j = n by have := HK.out; omega)
    have HNV := md_ hdv
    rw [hcv]
    clear hwb hcr hxl hd hdd hyv hst hcv hdv htv1 hvla hxla g2la HK HS
    obtain ⟨w1, w2⟩ := W1.out
    clear W1
    go_wp2_with (first
    | ((with_reducible refine gate_builtin (b := .append) (xs := #[.tmp 40, .tmp 43]) rfl ?_); at_builtin; refine Kd.R_append_rows (Kd.int .u32) (w0 := w) w.heap.size rfl (.tmp 40) (.tmp 43) 58 35 (.int .u32 0) 4 rfl Tryz.underlying58 info35 rfl (by decide) (by omega) _ x ([yv] : List Int) _ _ _ (fun _ => True) (fun _ => False) rfl rfl ?aO ?aR (fun _ _ h => h) (fun _ h => h.elim) ?aF ?aB ?aS ?aL ?_; (case aR => exact (Kd.V_reads' (one_V wr yv)).2.2); (case aB => exact below_alloc HB.out _); (case aF => exact (fun _ _ => trivial)); (case aO => exact Kd.R_alloc HO.out _); (case aS => exact below_size (below_alloc HB.out _)); (case aL => have := HS1.out; show (_ + 1) * 4 ≤ _; omega); intro v1 w5 ho hb hg hat; have HO2 := md_ ho; have HB2 := md_ hb; clear ho hb hg hat))
    go_roundg j
    case measure => omega
    case rel => exact ⟨i + 1, d, x ++ [yv], by rw [HNV.out], by first | rfl | rw [w1] | rw [w2], HK2, HST, HO2, HB2⟩
end Go.Proofs.YtdoeigngpemcgaaGreatDoor.Dec
