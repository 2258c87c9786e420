/- Over any float and any number of digits the law DecimalDigits answers true: both sides tell the same digits, exponent, sign and error; no condition. This is part 6 of 7: what the session's printing program wrote for the functions reached, and the session's own lemmas. -/
import Derived.Laws.CopyOwn
import Derived.Laws.RangeAny
import Derived.Laws.ResultCell
import Derived.Lib.OthersKept
import Derived.Test.YtdoeigngpemcgaaGreatDoorDig2
import Derived.Test.YtdoeigngpemcgaaGreatDoorDig4
import Derived.Test.YtdoeigngpemcgaaGreatDoorDig5
set_option maxHeartbeats 32000000
set_option linter.unusedVariables false
set_option linter.unusedSimpArgs false
namespace Go.Proofs.YtdoeigngpemcgaaGreatDoor.Dec
open Go.RowKit Go.Flt Go.Proofs.YtdoeigngpemcgaaGreatDoor.PDec Go.Proofs.YtdoeigngpemcgaaGreatDoor.Pure Go.Proofs.YtdoeigngpemcgaaGreatDoorW.PrintWords Go.Proofs.YtdoeigngpemcgaaGreatDoorW.PrintLast Go.Proofs.YtdoeigngpemcgaaGreatDoorW.PrintMore
attribute [local go_sem] max2_int min2_int max_two min_two max_three min_three max_four min_four
/-- a pattern with a sign -/
def sg (neg : Bool) (p : Nat) : Nat := if neg then p + 9223372036854775808 else p
theorem s_sign (w : World) (neg : Bool) (p : Nat) (hp : p < 9223372036854775808) : Calls Tryz.prog 154 #[.int .u64 (p : Int), .bool neg] w fun e w' => e = .returned (.int .u64 ((sg neg p : Nat) : Int)) ∧ Drawn0 w w' := by
 refine soft_sign.calls _ _ _ w ?_
 unfold soft_sign.f sg
 cases neg with
 | true =>
  rw [if_pos rfl, if_pos rfl, show (9223372036854775808 : Int) = ((9223372036854775808 : Nat) : Int) from rfl, u64_or_nat _ _ (by omega) (by omega), Nat.or_comm, nat_join 63 _ _ (by decide) (by omega), Nat.add_comm]
 | false => rw [if_neg (by decide), if_neg (by decide)]
theorem s_double (w : World) : Calls Tryz.prog 155 #[] w fun e w' => e = .returned (.agg #[.int .i64 53, .int .i64 (-1074), .int .i64 971]) ∧ Below w.heap.size w w' := soft_double.calls _ _ _ w rfl
/-- round, of any number -/
theorem s_round (w : World) (M : Nat) (hM : M < 2 ^ 128) (h0 : 0 < M) (e : Int) (he : -300000 ≤ e) (he2 : e ≤ 300000) (r : Bool) :
  Calls Tryz.prog 156 #[.agg #[.int .i64 53, .int .i64 (-1074), .int .i64 971], .int .u64 (hiW M), .int .u64 (loW M), .int .i64 e, .bool r] w fun x w' => x = .returned (.tuple #[.int .u64 (((rnd M e (if r then 1 else 0)).1 : Nat) : Int), .int .i64 (rnd M e (if r then 1 else 0)).2]) ∧ Below w.heap.size w w' := by
 by_cases hq : expo M e ≤ e
 ·have := s_round_l w M hM h0 e he he2 r hq
  unfold rnd
  rw [if_pos hq]
  exact this
 ·exact s_round_r w M hM h0 e he he2 r (by omega)
theorem rnd_lt (M : Nat) (e : Int) (r : Nat) : (rnd M e r).1 < 9007199254740992 := by
 have hlt := Num.bitsN_lt M
 have hx : expo M e = max ((Num.bitsN M : Int) + e - 53) (-1074) := rfl
 unfold rnd
 by_cases hq : expo M e ≤ e
 ·rw [if_pos hq]
  show M * 2 ^ (e - expo M e).toNat < _
  have h1 : M * 2 ^ (e - expo M e).toNat < 2 ^ Num.bitsN M * 2 ^ (e - expo M e).toNat := Nat.mul_lt_mul_of_pos_right hlt (Nat.two_pow_pos _)
  rw [← Nat.pow_add] at h1
  exact Nat.lt_of_lt_of_le h1 (show 2 ^ _ ≤ 2 ^ 53 from Nat.pow_le_pow_right (by decide) (by omega))
 ·rw [if_neg hq]
  obtain ⟨t, ht⟩ : ∃ t : Nat, t = (expo M e - e - 1).toNat := ⟨_, rfl⟩
  rw [← ht]
  have hHs : M / 2 ^ t < 18014398509481984 := by
   rw [Nat.div_lt_iff_lt_mul (Nat.two_pow_pos t)]
   refine Nat.lt_of_lt_of_le hlt ?_
   rw [show (18014398509481984 : Nat) = 2 ^ 54 from rfl, ← Nat.pow_add]
   exact Nat.pow_le_pow_right (by decide) (by omega)
  have hh : hal M t r ≤ 9007199254740992 := by unfold hal; split <;> omega
  split
  ·show hal M t r / 2 < _
   omega
  ·show hal M t r < _
   omega
theorem rnd_ge (M : Nat) (e : Int) (r : Nat) : -1074 ≤ (rnd M e r).2 := by
 have := expo_ge M e
 unfold rnd
 split
 ·exact this
 ·split
  ·show -1074 ≤ expo M e + 1
   omega
  ·exact this
/-- an exponent, cut -/
def clamp (e : Int) : Int := min (max e (-100000)) 100000
theorem s_pack (w : World) (neg : Bool) (M : Nat) (hM : M < 2 ^ 128) (e : Int) (r : Bool) :
  Calls Tryz.prog 118 #[.bool neg, .int .u64 (hiW M), .int .u64 (loW M), .int .i64 e, .bool r] w fun x w' => x = .returned (.int .u64 ((sg neg (packN M (clamp e) (if r then 1 else 0)) : Nat) : Int)) ∧ Below w.heap.size w w' := by
 have h1 := hi_lt hM
 have h2 := lo_lt M
 have hor := u64_or_nat _ _ h1 h2
 have hz := or64_zero _ _ h1 h2
 have hd := Nat.div_add_mod M 18446744073709551616
 have HB := Aside0.mk (Below.refl w.heap.size w)
 obtain ⟨res, hres⟩ : ∃ z : Int, ((sg neg (packN M (clamp e) (if r then 1 else 0)) : Nat) : Int) = z := ⟨_, rfl⟩
 rw [hres]
 by_cases h0 : M = 0
 ·subst h0
  have hr : res = ((sg neg 0 : Nat) : Int) := by rw [← hres]; rfl
  have HS : Aside0 (∀ w, Calls Tryz.prog 154 #[.int .u64 0, .bool neg] w fun e w' => e = .returned (.int .u64 ((sg neg 0 : Nat) : Int)) ∧ Drawn0 w w') := ⟨fun w => s_sign w neg 0 (by decide)⟩
  have hor0 : bits .or .u64 (hiW 0) (loW 0) = 0 := hz.2 ⟨rfl, rfl⟩
  subst hr
  clear h1 h2 hor hz hd hres hM
  go_enter Tryz.func118, Tryz.ntmps118
  go_wp2_with (go_at_call 154; (with_reducible refine (HS.out _).mono ?_); rintro e w' ⟨rfl, ⟨nd, rfl⟩⟩)
  go_ret
  exact ⟨rfl, by repeat (first | exact HB.out | apply pw_below_drewN)⟩
 ·obtain ⟨o, ho⟩ : ∃ z : Int, bits .or .u64 (hiW M) (loW M) = z := ⟨_, rfl⟩
  have ho0 : o ≠ 0 := by
   intro h
   rw [h] at ho
   have := hz.1 ho
   omega
  have ho1 : (o == 0) = false := by simpa using ho0
  obtain ⟨e1, he1⟩ : ∃ z : Int, (if e < -100000 then -100000 else e) = z := ⟨_, rfl⟩
  obtain ⟨e2, he2⟩ : ∃ z : Int, (if 100000 < e1 then 100000 else e1) = z := ⟨_, rfl⟩
  have hc : clamp e = e2 := by unfold clamp; rw [← he2, ← he1]; split <;> split <;> omega
  have hb1 : -100000 ≤ e2 := by rw [← hc]; unfold clamp; omega
  have hb2 : e2 ≤ 100000 := by rw [← hc]; unfold clamp; omega
  rw [hc] at hres
  have HR := Aside0.mk (fun w => s_round w M hM (by omega) e2 (by omega) (by omega) r)
  have HD := Aside0.mk s_double
  obtain ⟨rr, hrr⟩ : ∃ z, rnd M e2 (if r then 1 else 0) = z := ⟨_, rfl⟩
  have hlt := rnd_lt M e2 (if r then 1 else 0)
  have hge := rnd_ge M e2 (if r then 1 else 0)
  unfold packN at hres
  rw [if_neg h0] at hres
  rw [hrr] at HR hlt hge hres
  obtain ⟨n, q⟩ := rr
  replace HR := HR.out
  replace hlt : n < 9007199254740992 := hlt
  replace hge : -1074 ≤ q := hge
  replace hres : ((sg neg (if 971 < q then 9218868437227405312 else if n < 4503599627370496 then n else (q + 1075).toNat * 4503599627370496 + (n - 4503599627370496)) : Nat) : Int) = res := hres
  replace HR := Aside0.mk HR
  have walk : ∀ (x : Nat), x < 9223372036854775808 → res = ((sg neg x : Nat) : Int) → ((971 < q ∧ x = 9218868437227405312) ∨ (¬ 971 < q ∧ n < 4503599627370496 ∧ x = n) ∨ (¬ 971 < q ∧ ¬ n < 4503599627370496 ∧ x = (q + 1075).toNat * 4503599627370496 + (n - 4503599627370496))) →
    Calls Tryz.prog 118 #[.bool neg, .int .u64 (hiW M), .int .u64 (loW M), .int .i64 e, .bool r] w fun x w' => x = .returned (.int .u64 res) ∧ Below w.heap.size w w' := by
   intro x hx hr hcase
   have HS := Aside0.mk (fun w => s_sign w neg x hx)
   rw [← hr] at HS
   obtain ⟨nn, hnn⟩ : ∃ z : Int, (n : Int) = z := ⟨_, rfl⟩
   rw [hnn] at HR
   rcases hcase with ⟨c, hx'⟩ | ⟨c, c2, hx'⟩ | ⟨c, c2, hx'⟩
   ·subst hx'
    replace HS : Aside0 (∀ w, Calls Tryz.prog 154 #[.int .u64 9218868437227405312, .bool neg] w fun e w' => e = .returned (.int .u64 res) ∧ Drawn0 w w') := HS
    have c' := decide_eq_true c
    clear h1 h2 hor hz hd hres hM hr hx hnn hlt hge hc hb1 hb2 hrr ho0 c h0
    go_enter Tryz.func118, Tryz.ntmps118
    go_wp2_with (first | (go_at_call 155; (with_reducible refine (HD.out _).mono ?_); rintro e w' ⟨rfl, hb⟩; replace HB := bt_ HB hb; clear hb) | (go_at_call 156; (with_reducible refine (HR.out _).mono ?_); rintro e w' ⟨rfl, hb⟩; replace HB := bt_ HB hb; clear hb) | (go_at_call 154; (with_reducible refine (HS.out _).mono ?_); rintro e w' ⟨rfl, ⟨nd, rfl⟩⟩))
    go_ret
    exact ⟨rfl, by repeat (first | exact HB.out | apply pw_below_drewN)⟩
   ·subst hx'
    rw [hnn] at HS
    have c' := decide_eq_false c
    have c2' := decide_eq_true (show nn < 4503599627370496 by omega)
    clear h1 h2 hor hz hd hres hM hr hx hnn hlt hge hc hb1 hb2 hrr ho0 c c2 h0
    go_enter Tryz.func118, Tryz.ntmps118
    go_wp2_with (first | (go_at_call 155; (with_reducible refine (HD.out _).mono ?_); rintro e w' ⟨rfl, hb⟩; replace HB := bt_ HB hb; clear hb) | (go_at_call 156; (with_reducible refine (HR.out _).mono ?_); rintro e w' ⟨rfl, hb⟩; replace HB := bt_ HB hb; clear hb) | (go_at_call 154; (with_reducible refine (HS.out _).mono ?_); rintro e w' ⟨rfl, ⟨nd, rfl⟩⟩))
    go_ret
    exact ⟨rfl, by repeat (first | exact HB.out | apply pw_below_drewN)⟩
   ·have c' := decide_eq_false c
    have c2' := decide_eq_false (show ¬ nn < 4503599627370496 by omega)
    obtain ⟨p, hp⟩ : ∃ p : Nat, p = (q + 1075).toNat := ⟨_, rfl⟩
    rw [← hp] at hx'
    obtain ⟨q1, hq1⟩ : ∃ z : Int, q + 1074 = z := ⟨_, rfl⟩
    have hw1 : wrap64 (q + 1074) = q1 := by rw [i64_id (by omega) (by omega)]; exact hq1
    have hw2 : wrap64 (q1 + 1) = (p : Int) := by rw [i64_id (by omega) (by omega)]; omega
    have hw3 : IntKind.u64.wrap (p : Int) = (p : Int) := by rw [IntKind.wrap_u64]; omega
    have hw4 : IntKind.u64.wrap ((p : Int) * 4503599627370496) = ((p * 4503599627370496 : Nat) : Int) := by rw [IntKind.wrap_u64]; omega
    have hand : bits .and .u64 nn 4503599627370495 = ((n - 4503599627370496 : Nat) : Int) := by
     rw [← hnn, show (4503599627370495 : Int) = ((4503599627370495 : Nat) : Int) from rfl, u64_and_nat _ _ (by omega) (by decide), show (4503599627370495 : Nat) = 2 ^ 52 - 1 from rfl, Nat.and_two_pow_sub_one_eq_mod]
     have : (2 : Nat) ^ 52 = 4503599627370496 := rfl
     omega
    have hor2 : bits .or .u64 ((p * 4503599627370496 : Nat) : Int) ((n - 4503599627370496 : Nat) : Int) = (x : Int) := by
     rw [u64_or_nat _ _ (by omega) (by omega), nat_join 52 _ _ (Nat.mul_mod_left _ _) (by have : (2 : Nat) ^ 52 = 4503599627370496 := rfl; omega), hx']
    obtain ⟨pp, hpp⟩ : ∃ z : Int, (p : Int) = z := ⟨_, rfl⟩
    rw [hpp] at hw2 hw3 hw4
    obtain ⟨y1, hy1⟩ : ∃ z : Int, ((p * 4503599627370496 : Nat) : Int) = z := ⟨_, rfl⟩
    obtain ⟨y2, hy2⟩ : ∃ z : Int, ((n - 4503599627370496 : Nat) : Int) = z := ⟨_, rfl⟩
    obtain ⟨xx, hxx⟩ : ∃ z : Int, (x : Int) = z := ⟨_, rfl⟩
    rw [hy1] at hw4 hor2
    rw [hy2] at hand hor2
    rw [hxx] at hor2 HS
    have hw1' : IntKind.i64.wrap (q + 1074) = q1 := (i64_w _).trans hw1
    have hw2' : IntKind.i64.wrap (q1 + 1) = pp := (i64_w _).trans hw2
    clear h1 h2 hor hz hd hres hM hr hx hnn hlt hge hc hb1 hb2 hrr ho0 c c2 h0 hx' hp hpp hy1 hy2 hxx hq1
    go_enter Tryz.func118, Tryz.ntmps118
    go_wp2_with (first | (go_at_call 155; (with_reducible refine (HD.out _).mono ?_); rintro e w' ⟨rfl, hb⟩; replace HB := bt_ HB hb; clear hb) | (go_at_call 156; (with_reducible refine (HR.out _).mono ?_); rintro e w' ⟨rfl, hb⟩; replace HB := bt_ HB hb; clear hb) | (go_at_call 154; (with_reducible refine (HS.out _).mono ?_); rintro e w' ⟨rfl, ⟨nd, rfl⟩⟩))
    go_ret
    exact ⟨rfl, by repeat (first | exact HB.out | apply pw_below_drewN)⟩
  by_cases c : 971 < q
  ·rw [if_pos c] at hres
   exact walk _ (by decide) hres.symm (.inl ⟨c, rfl⟩)
  ·rw [if_neg c] at hres
   by_cases c2 : n < 4503599627370496
   ·rw [if_pos c2] at hres
    exact walk _ (by omega) hres.symm (.inr (.inl ⟨c, c2, rfl⟩))
   ·rw [if_neg c2] at hres
    exact walk _ (by omega) hres.symm (.inr (.inr ⟨c, c2, rfl⟩))
end Go.Proofs.YtdoeigngpemcgaaGreatDoor.Dec
namespace Go.Proofs.YtdoeigngpemcgaaGreatDoor.Dec
open Go.RowKit Go.Flt Go.Proofs.YtdoeigngpemcgaaGreatDoor.PDec Go.Proofs.YtdoeigngpemcgaaGreatDoor.Pure Go.Proofs.YtdoeigngpemcgaaGreatDoorW.PrintWords Go.Proofs.YtdoeigngpemcgaaGreatDoorW.PrintLast Go.Proofs.YtdoeigngpemcgaaGreatDoorW.PrintMore
/-- a float's parts -/
def fneg (a : Nat) : Bool := decide (9223372036854775808 ≤ a)
def fexp (a : Nat) : Nat := a / 4503599627370496 % 2048
def fmant (a : Nat) : Nat := if fexp a = 0 then a % 4503599627370496 else a % 4503599627370496 + 4503599627370496
def fpow (a : Nat) : Int := if fexp a = 0 then -1074 else (fexp a : Int) - 1075
theorem s_isNeg (w : World) (a : Nat) (ha : a < 18446744073709551616) : Calls Tryz.prog 109 #[.int .u64 (a : Int)] w fun e w' => e = .returned (.bool (fneg a)) ∧ Drawn0 w w' := by
 refine soft_isNeg.calls _ _ w ?_
 unfold soft_isNeg.f fneg
 congr 1
 rw [Bool.eq_iff_iff, beq_iff_eq, decide_eq_true_iff]
 omega
set_option maxRecDepth 100000 in
theorem s_split (w : World) (a : Nat) (ha : a < 18446744073709551616) : Calls Tryz.prog 84 #[.int .u64 (a : Int)] w fun e w' => e = .returned (.agg #[.bool (fneg a), .int .u64 ((fmant a : Nat) : Int), .int .i64 (fpow a)]) ∧ Below w.heap.size w w' := by
 have hu102 := Tryz.underlying102
 have HB := Aside0.mk (Below.refl w.heap.size w)
 have HN := Aside0.mk (fun w => s_isNeg w a ha)
 obtain ⟨neg, hneg⟩ : ∃ z, fneg a = z := ⟨_, rfl⟩
 rw [hneg] at HN ⊢
 obtain ⟨aa, haa⟩ : ∃ z : Int, (a : Int) = z := ⟨_, rfl⟩
 obtain ⟨y, hy⟩ : ∃ z : Int, aa / 4503599627370496 = z := ⟨_, rfl⟩
 obtain ⟨x, hx⟩ : ∃ z : Int, ((fexp a : Nat) : Int) = z := ⟨_, rfl⟩
 obtain ⟨f, hf⟩ : ∃ z : Int, ((a % 4503599627370496 : Nat) : Int) = z := ⟨_, rfl⟩
 have hx0 : fexp a < 2048 := Nat.mod_lt _ (by decide)
 have hand : bits .and .u64 y 2047 = x := by
  rw [← hy, ← haa, ← hx, show ((a : Int) / 4503599627370496) = ((a / 4503599627370496 : Nat) : Int) by omega, show (2047 : Int) = ((2047 : Nat) : Int) from rfl, u64_and_nat _ _ (by omega) (by decide), show (2047 : Nat) = 2 ^ 11 - 1 from rfl, Nat.and_two_pow_sub_one_eq_mod]
  try rfl
 have hfr : bits .and .u64 aa 4503599627370495 = f := by
  rw [← haa, ← hf, show (4503599627370495 : Int) = ((4503599627370495 : Nat) : Int) from rfl, u64_and_nat _ _ ha (by decide), show (4503599627370495 : Nat) = 2 ^ 52 - 1 from rfl, Nat.and_two_pow_sub_one_eq_mod]
  try rfl
 have hor : bits .or .u64 f 4503599627370496 = f + 4503599627370496 := by
  rw [← hf, show (4503599627370496 : Int) = ((4503599627370496 : Nat) : Int) from rfl, u64_or_nat _ _ (by omega) (by decide), Nat.or_comm, nat_join 52 _ _ (by decide) (by have : (2 : Nat) ^ 52 = 4503599627370496 := rfl; omega)]
  omega
 have hw1 : IntKind.i64.wrap x = x := i64w_id (by omega) (by omega)
 have hw1' : wrap64 x = x := i64_id (by omega) (by omega)
 rw [haa] at HN ⊢
 by_cases c : fexp a = 0
 ·have hm : ((fmant a : Nat) : Int) = f := by unfold fmant; rw [if_pos c, hf]
  have hp : fpow a = -1074 := by unfold fpow; rw [if_pos c]
  rw [hm, hp]
  have c1 := decide_eq_false (show ¬ (0 : Int) < x by omega)
  clear hor hx hx0 hf hneg haa hm hp c ha
  go_enter Tryz.func84, Tryz.ntmps84
  go_wp2_with (first | ((with_reducible refine gate_dst (N := 2) rfl ?_); refine box_event ?hg (N := 2) ?hd (cs := #[.bool false, .int .u64 0, .int .i64 0]) (t := 102) ?hr ?_; (case hd => rfl); (case hg => rfl); (case hr => first | (go_simp; done) | (go_simp; rfl)); intro g1 hg w4 hbox hb; have n0_ := Aside0.mk (below_step HB.out hb); have n1_ := Aside0.mk hbox; have n2_ := Aside0.mk ((by rw [hg]; exact (below_size HB.out)) : w.heap.size ≤ g1); clear HB; have HB := n0_; have BK := n1_; have GE := n2_; clear n0_ n1_ n2_; clear hb hbox hg) | (go_at_call 109; (with_reducible refine (HN.out _).mono ?_); rintro e w' ⟨rfl, ⟨nd, rfl⟩⟩) | ((with_reducible refine gate_dst (N := 3) rfl ?_); refine box_event ?hg (N := 3) ?hd (cs := #[.bool false, .int .u64 0, .int .i64 0]) (t := 102) ?hr ?_; (case hd => rfl); (case hg => rfl); (case hr => first | (go_simp; done) | (go_simp; rfl)); intro g2 hg w5 hbox hb; have n0_ := Aside0.mk (blk_below (g := g1) (by (with_reducible repeat (first | refine blk_drewN ?_ _ | refine blk_drew ?_ | refine blk_alloc ?_ _)); exact BK.out) hb); have n1_ := Aside0.mk (below_step (by repeat (first | (with_reducible first | exact HB.out | apply below_alloc | apply pw_below_drewN | apply below_drew1) | exact HB.out)) hb); have n2_ := Aside0.mk hbox; have n3_ := Aside0.mk ((by rw [hg]; exact (below_size (by repeat (first | (with_reducible first | exact HB.out | apply below_alloc | apply pw_below_drewN | apply below_drew1) | exact HB.out))) : w.heap.size ≤ g2)); have n4_ := Aside0.mk ((by rw [hg]; exact Nat.ne_of_lt (blk_lt (g := g1) (by (with_reducible repeat (first | refine blk_drewN ?_ _ | refine blk_drew ?_ | refine blk_alloc ?_ _)); exact BK.out)) : g1 ≠ g2)); clear BK HB; have BK := n0_; have HB := n1_; have BK2 := n2_; have GE2 := n3_; have NE := n4_; clear n0_ n1_ n2_ n3_ n4_; clear hb hbox hg; have ne1 := NE.out; have ne2 := NE.out.symm; have z0 : w5.cell? ⟨g2, 0, none⟩ = some (.bool false) := (blk_cell BK2.out 0).trans rfl; have z1 : w5.cell? ⟨g2, 1, none⟩ = some (.int .u64 0) := (blk_cell BK2.out 1).trans rfl; have z2 : w5.cell? ⟨g2, 2, none⟩ = some (.int .i64 0) := (blk_cell BK2.out 2).trans rfl; have f0 := blk_frozen BK2.out 0; have f1 := blk_frozen BK2.out 1; have f2 := blk_frozen BK2.out 2; have y0 : w5.cell? ⟨g1, 0, none⟩ = some (.bool false) := (blk_cell BK.out 0).trans rfl; have y1 : w5.cell? ⟨g1, 1, none⟩ = some (.int .u64 0) := (blk_cell BK.out 1).trans rfl; have y2 : w5.cell? ⟨g1, 2, none⟩ = some (.int .i64 0) := (blk_cell BK.out 2).trans rfl; have h0 := blk_frozen BK.out 0; have h1 := blk_frozen BK.out 1; have h2 := blk_frozen BK.out 2))
  refine bodyPost_ret (results_cell_row rfl _ _ g1 102 #[.bool neg, .int .u64 f, .int .i64 (-1074)] (0, 0) _ rfl (by refine blk_put (cs := #[.bool neg, .int .u64 f, .int .i64 0]) ?_ 2 _ rfl; refine blk_put (cs := #[.bool neg, .int .u64 0, .int .i64 0]) ?_ 1 _ rfl; refine blk_put (cs := #[.bool false, .int .u64 0, .int .i64 0]) ?_ 0 _ rfl; refine blk_far ?_ NE.out _; refine blk_far ?_ NE.out _; refine blk_far ?_ NE.out _; exact BK.out) Tryz.underlying102 rfl (by kernel_rfl)) rfl ?_
  exact ⟨rfl, by repeat (first | exact HB.out | refine below_set ?_ GE.out | refine below_set ?_ GE2.out)⟩
 ·obtain ⟨m, hm'⟩ : ∃ z : Int, f + 4503599627370496 = z := ⟨_, rfl⟩
  have hm : ((fmant a : Nat) : Int) = m := by unfold fmant; rw [if_neg c]; omega
  obtain ⟨e, he'⟩ : ∃ z : Int, x - 1075 = z := ⟨_, rfl⟩
  have hp : fpow a = e := by unfold fpow; rw [if_neg c]; omega
  rw [hm, hp]
  rw [hm'] at hor
  have c1 := decide_eq_true (show (0 : Int) < x by omega)
  obtain ⟨x1, hx1⟩ : ∃ z : Int, x - 1 = z := ⟨_, rfl⟩
  have hw2 : IntKind.i64.wrap (x - 1) = x1 := by rw [i64w_id (by omega) (by omega)]; exact hx1
  have hw3 : IntKind.i64.wrap (x1 + -1074) = e := by rw [i64w_id (by omega) (by omega)]; omega
  have hw2' : wrap64 (x - 1) = x1 := by rw [i64_id (by omega) (by omega)]; exact hx1
  have hw3' : wrap64 (x1 + -1074) = e := by rw [i64_id (by omega) (by omega)]; omega
  clear hx hx0 hf hneg haa hm hp c ha hm' he' hx1
  go_enter Tryz.func84, Tryz.ntmps84
  go_upto_region 4 with (first | ((with_reducible refine gate_dst (N := 2) rfl ?_); refine box_event ?hg (N := 2) ?hd (cs := #[.bool false, .int .u64 0, .int .i64 0]) (t := 102) ?hr ?_; (case hd => rfl); (case hg => rfl); (case hr => first | (go_simp; done) | (go_simp; rfl)); intro g1 hg w4 hbox hb; have n0_ := Aside0.mk (below_step HB.out hb); have n1_ := Aside0.mk hbox; have n2_ := Aside0.mk ((by rw [hg]; exact (below_size HB.out)) : w.heap.size ≤ g1); clear HB; have HB := n0_; have BK := n1_; have GE := n2_; clear n0_ n1_ n2_; clear hb hbox hg) | (go_at_call 109; (with_reducible refine (HN.out _).mono ?_); rintro e w' ⟨rfl, ⟨nd, rfl⟩⟩) | ((with_reducible refine gate_dst (N := 3) rfl ?_); refine box_event ?hg (N := 3) ?hd (cs := #[.bool false, .int .u64 0, .int .i64 0]) (t := 102) ?hr ?_; (case hd => rfl); (case hg => rfl); (case hr => first | (go_simp; done) | (go_simp; rfl)); intro g2 hg w5 hbox hb; have n0_ := Aside0.mk (blk_below (g := g1) (by (with_reducible repeat (first | refine blk_drewN ?_ _ | refine blk_drew ?_ | refine blk_alloc ?_ _)); exact BK.out) hb); have n1_ := Aside0.mk (below_step (by repeat (first | (with_reducible first | exact HB.out | apply below_alloc | apply pw_below_drewN | apply below_drew1) | exact HB.out)) hb); have n2_ := Aside0.mk hbox; have n3_ := Aside0.mk ((by rw [hg]; exact (below_size (by repeat (first | (with_reducible first | exact HB.out | apply below_alloc | apply pw_below_drewN | apply below_drew1) | exact HB.out))) : w.heap.size ≤ g2)); have n4_ := Aside0.mk ((by rw [hg]; exact Nat.ne_of_lt (blk_lt (g := g1) (by (with_reducible repeat (first | refine blk_drewN ?_ _ | refine blk_drew ?_ | refine blk_alloc ?_ _)); exact BK.out)) : g1 ≠ g2)); clear BK HB; have BK := n0_; have HB := n1_; have BK2 := n2_; have GE2 := n3_; have NE := n4_; clear n0_ n1_ n2_ n3_ n4_; clear hb hbox hg; have ne1 := NE.out; have ne2 := NE.out.symm; have z0 : w5.cell? ⟨g2, 0, none⟩ = some (.bool false) := (blk_cell BK2.out 0).trans rfl; have z1 : w5.cell? ⟨g2, 1, none⟩ = some (.int .u64 0) := (blk_cell BK2.out 1).trans rfl; have z2 : w5.cell? ⟨g2, 2, none⟩ = some (.int .i64 0) := (blk_cell BK2.out 2).trans rfl; have f0 := blk_frozen BK2.out 0; have f1 := blk_frozen BK2.out 1; have f2 := blk_frozen BK2.out 2; have y0 : w5.cell? ⟨g1, 0, none⟩ = some (.bool false) := (blk_cell BK.out 0).trans rfl; have y1 : w5.cell? ⟨g1, 1, none⟩ = some (.int .u64 0) := (blk_cell BK.out 1).trans rfl; have y2 : w5.cell? ⟨g1, 2, none⟩ = some (.int .i64 0) := (blk_cell BK.out 2).trans rfl; have h0 := blk_frozen BK.out 0; have h1 := blk_frozen BK.out 1; have h2 := blk_frozen BK.out 2))
  generalize hW : World.setCell _ _ _ = w6
  replace BK2 := Aside0.mk (show w6.heap[g2]? = some (.cells #[.bool neg, .int .u64 f, .int .i64 (-1074)] 102 (0, 0)) by rw [← hW]; refine blk_put (cs := #[.bool neg, .int .u64 f, .int .i64 0]) ?_ 2 _ rfl; refine blk_put (cs := #[.bool neg, .int .u64 0, .int .i64 0]) ?_ 1 _ rfl; refine blk_put (cs := #[.bool false, .int .u64 0, .int .i64 0]) ?_ 0 _ rfl; exact BK2.out)
  replace BK := Aside0.mk (show w6.heap[g1]? = some (.cells #[.bool false, .int .u64 0, .int .i64 0] 102 (0, 0)) by rw [← hW]; refine blk_far ?_ NE.out _; refine blk_far ?_ NE.out _; refine blk_far ?_ NE.out _; exact BK.out)
  replace HB := Aside0.mk (show Below w.heap.size w w6 by rw [← hW]; repeat (first | exact HB.out | refine below_set ?_ GE2.out))
  clear hW z0 z1 z2 f0 f1 f2 y0 y1 y2 h0 h1 h2
  have z1 : w6.cell? ⟨g2, 1, none⟩ = some (.int .u64 f) := (blk_cell BK2.out 1).trans rfl
  have f1 := blk_frozen BK2.out 1
  go_upto_region 5 with (go_at_call 9999; skip)
  generalize hW : World.setCell _ _ _ = w7
  replace BK2 := Aside0.mk (show w7.heap[g2]? = some (.cells #[.bool neg, .int .u64 m, .int .i64 (-1074)] 102 (0, 0)) by rw [← hW]; refine blk_put (cs := #[.bool neg, .int .u64 f, .int .i64 (-1074)]) ?_ 1 _ rfl; exact BK2.out)
  replace BK := Aside0.mk (show w7.heap[g1]? = some (.cells #[.bool false, .int .u64 0, .int .i64 0] 102 (0, 0)) by rw [← hW]; refine blk_far ?_ NE.out _; exact BK.out)
  replace HB := Aside0.mk (show Below w.heap.size w w7 by rw [← hW]; repeat (first | exact HB.out | refine below_set ?_ GE2.out))
  clear hW z1 f1
  have f2 := blk_frozen BK2.out 2
  have z2 : w7.cell? ⟨g2, 2, none⟩ = some (.int .i64 (-1074)) := (blk_cell BK2.out 2).trans rfl
  go_upto_region 6 with (go_at_call 9999; skip)
  generalize hW : World.setCell _ _ _ = w8
  replace BK2 := Aside0.mk (show w8.heap[g2]? = some (.cells #[.bool neg, .int .u64 m, .int .i64 e] 102 (0, 0)) by rw [← hW]; refine blk_put (cs := #[.bool neg, .int .u64 m, .int .i64 (-1074)]) ?_ 2 _ rfl; exact BK2.out)
  replace BK := Aside0.mk (show w8.heap[g1]? = some (.cells #[.bool false, .int .u64 0, .int .i64 0] 102 (0, 0)) by rw [← hW]; refine blk_far ?_ NE.out _; exact BK.out)
  replace HB := Aside0.mk (show Below w.heap.size w w8 by rw [← hW]; repeat (first | exact HB.out | refine below_set ?_ GE2.out))
  clear hW z2 f2
  have z0 : w8.cell? ⟨g2, 0, none⟩ = some (.bool neg) := (blk_cell BK2.out 0).trans rfl
  have z1 : w8.cell? ⟨g2, 1, none⟩ = some (.int .u64 m) := (blk_cell BK2.out 1).trans rfl
  have z2 : w8.cell? ⟨g2, 2, none⟩ = some (.int .i64 e) := (blk_cell BK2.out 2).trans rfl
  have y0 : w8.cell? ⟨g1, 0, none⟩ = some (.bool false) := (blk_cell BK.out 0).trans rfl
  have y1 : w8.cell? ⟨g1, 1, none⟩ = some (.int .u64 0) := (blk_cell BK.out 1).trans rfl
  have y2 : w8.cell? ⟨g1, 2, none⟩ = some (.int .i64 0) := (blk_cell BK.out 2).trans rfl
  have h0 := blk_frozen BK.out 0
  have h1 := blk_frozen BK.out 1
  have h2 := blk_frozen BK.out 2
  go_wp2
  refine bodyPost_ret (results_cell_row rfl _ _ g1 102 #[.bool neg, .int .u64 m, .int .i64 e] (0, 0) _ rfl (by refine blk_put (cs := #[.bool neg, .int .u64 m, .int .i64 0]) ?_ 2 _ rfl; refine blk_put (cs := #[.bool neg, .int .u64 0, .int .i64 0]) ?_ 1 _ rfl; refine blk_put (cs := #[.bool false, .int .u64 0, .int .i64 0]) ?_ 0 _ rfl; exact BK.out) Tryz.underlying102 rfl (by kernel_rfl)) rfl ?_
  exact ⟨rfl, by repeat (first | exact HB.out | refine below_set ?_ GE.out | refine below_set ?_ GE2.out)⟩
end Go.Proofs.YtdoeigngpemcgaaGreatDoor.Dec
namespace Go.Proofs.YtdoeigngpemcgaaGreatDoor.Dec
open Go.RowKit Go.Proofs.YtdoeigngpemcgaaGreatDoor.Pure Go.Proofs.YtdoeigngpemcgaaGreatDoorW.PrintWords Go.Proofs.YtdoeigngpemcgaaGreatDoorW.PrintLast Go.Proofs.YtdoeigngpemcgaaGreatDoorW.PrintMore
/-- some word of the first k is not 0 -/
def anyW (l : List Int) (k : Nat) : Bool := (l.take k).any (fun x => x != 0)
theorem anyW_succ (l : List Int) (k : Nat) (h : k < l.length) : anyW l (k + 1) = (anyW l k || (rd l (k : Int) != 0)) := by
 unfold anyW
 rw [List.take_succ_eq_append_getElem h, List.any_append, List.any_cons, List.any_nil, Bool.or_false]
 congr 1
 unfold rd
 rw [Int.toNat_natCast]
 simp [List.getD, h]
theorem any_val {l : List Int} (ok : Num.okW l) : (l.any (fun x => x != 0)) = decide (Num.valN l ≠ 0) := by
 induction l with
 | nil => rfl
 | cons a t ih =>
  have h := Num.okW_cons.1 ok
  rw [List.any_cons, ih h.2, Bool.eq_iff_iff, Bool.or_eq_true, bne_iff_ne, decide_eq_true_iff, decide_eq_true_iff]
  show _ ↔ a.toNat + 4294967296 * Num.valN t ≠ 0
  omega
theorem lost_eq {l : List Int} (ok : Num.okW l) {n k r : Nat} (hk : n / 32 = k) (hr : n % 32 = r) (h : k < l.length) :
  decide (Num.valN l % 2 ^ n ≠ 0) = (anyW l k || decide ((rd l (k : Int)).toNat % 2 ^ r ≠ 0)) := by
 have e1 : rd l (k : Int) = l[k] := by
  unfold rd
  rw [Int.toNat_natCast]
  simp [List.getD, h]
 have ht : Num.okW (l.take k) := fun x hx => ok x (List.mem_of_mem_take hx)
 have hlt := Num.valN_lt ht
 rw [List.length_take, Nat.min_eq_left (by omega)] at hlt
 have hsplit : Num.valN l = Num.valN (l.take k) + 4294967296 ^ k * (l[k].toNat + 4294967296 * Num.valN (l.drop (k + 1))) := by
  have e := Num.valN_append (l.take k) (l.drop k)
  rw [List.take_append_drop, List.length_take, Nat.min_eq_left (by omega), List.drop_eq_getElem_cons h] at e
  exact e
 have hp : (2 : Nat) ^ n = 4294967296 ^ k * 2 ^ r := by
  rw [show (4294967296 : Nat) = 2 ^ 32 from rfl, ← Nat.pow_mul, ← Nat.pow_add]
  congr 1
  omega
 have hr32 : r < 32 := by omega
 have hd : (2 : Nat) ^ r ∣ 4294967296 := ⟨2 ^ (32 - r), by rw [← Nat.pow_add, show r + (32 - r) = 32 by omega]⟩
 have hz : Num.valN l % 2 ^ n = 4294967296 ^ k * (l[k].toNat % 2 ^ r) + Num.valN (l.take k) := by
  obtain ⟨q, hq⟩ := hd
  rw [hp, Nat.mod_mul, hsplit, Nat.add_mul_mod_self_left, Nat.mod_eq_of_lt hlt, Nat.add_mul_div_left _ _ (Nat.pow_pos (by decide)), Nat.div_eq_of_lt hlt, Nat.zero_add, Nat.add_comm]
  congr 2
  rw [hq, Nat.mul_assoc, Nat.add_mul_mod_self_left]
 rw [e1, hz]
 unfold anyW
 rw [any_val ht, Bool.eq_iff_iff, Bool.or_eq_true, decide_eq_true_iff, decide_eq_true_iff, decide_eq_true_iff]
 have hpos : 0 < 4294967296 ^ k := Nat.pow_pos (by decide)
 constructor
 ·intro hne
  by_cases c : Num.valN (l.take k) = 0
  ·right
   intro c2
   rw [c2, c] at hne
   exact hne (by rw [Nat.mul_zero])
  ·exact .inl c
 ·rintro (c | c)
  ·omega
  ·intro hh
   have := (Nat.add_eq_zero_iff.1 hh).1
   rcases Nat.mul_eq_zero.1 this with z | z
   ·omega
   ·exact c z
/-- the mask's answer -/
theorem mask_eq {l : List Int} (ok : Num.okW l) {k r : Nat} (h : k < l.length) (hr : r < 32) :
  (bits .and .u32 (rd l (k : Int)) ((2 ^ r - 1) % 4294967296) != 0) = decide ((rd l (k : Int)).toNat % 2 ^ r ≠ 0) := by
 have e1 : rd l (k : Int) = l[k] := by
  unfold rd
  rw [Int.toNat_natCast]
  simp [List.getD, h]
 have ho := ok (l[k]) (List.getElem_mem h)
 obtain ⟨x, hx⟩ : ∃ x : Nat, l[k] = (x : Int) := ⟨l[k].toNat, by omega⟩
 rw [e1, hx, Int.toNat_natCast]
 have hle : 2 ^ r ≤ 2 ^ 31 := Nat.pow_le_pow_right (by decide) (by omega)
 have hpos := Nat.two_pow_pos r
 have h31 : (2 : Nat) ^ 31 = 2147483648 := rfl
 have hm : ((2 : Int) ^ r - 1) % 4294967296 = ((2 ^ r - 1 : Nat) : Int) := by
  have : ((2 : Int) ^ r) = ((2 ^ r : Nat) : Int) := by rw [Int.natCast_pow]; rfl
  rw [this]
  omega
 rw [hm, u32_and_nat _ _ (by omega) (by omega), Nat.and_two_pow_sub_one_eq_mod, Bool.eq_iff_iff, bne_iff_ne, decide_eq_true_iff]
 omega
end Go.Proofs.YtdoeigngpemcgaaGreatDoor.Dec
namespace Go.Proofs.YtdoeigngpemcgaaGreatDoor.Dec
open Go.RowKit Go.Flt Go.Proofs.YtdoeigngpemcgaaGreatDoor.Pure Go.Proofs.YtdoeigngpemcgaaGreatDoorW.PrintWords Go.Proofs.YtdoeigngpemcgaaGreatDoorW.PrintLast Go.Proofs.YtdoeigngpemcgaaGreatDoorW.PrintMore
attribute [local go_sem] max2_int min2_int max_two min_two max_three min_three max_four min_four
/-- four words, the missing ones 0 -/
theorem four (l : List Int) (ok : Num.okW l) (hl : l.length ≤ 4) : ∃ x0 x1 x2 x3 : Nat, x0 < 4294967296 ∧ x1 < 4294967296 ∧ x2 < 4294967296 ∧ x3 < 4294967296 ∧
  splice [Value.int .u32 0, .int .u32 0, .int .u32 0, .int .u32 0] 0 (l.map (Value.int .u32)) = [.int .u32 (x0 : Int), .int .u32 (x1 : Int), .int .u32 (x2 : Int), .int .u32 (x3 : Int)] ∧ Num.valN l = x0 + 4294967296 * (x1 + 4294967296 * (x2 + 4294967296 * x3)) := by
 have key : ∀ x : Int, x ∈ l → ((x.toNat : Nat) : Int) = x ∧ x.toNat < 4294967296 := fun x hx => by
  have := ok x hx
  omega
 match l, hl, key with
 | [], _, _ => exact ⟨0, 0, 0, 0, by decide, by decide, by decide, by decide, rfl, rfl⟩
 | [a], _, key =>
  have ka := key a (by simp)
  exact ⟨a.toNat, 0, 0, 0, ka.2, by decide, by decide, by decide, by rw [ka.1]; rfl, by simp [Num.valN]⟩
 | [a, b], _, key =>
  have ka := key a (by simp)
  have kb := key b (by simp)
  exact ⟨a.toNat, b.toNat, 0, 0, ka.2, kb.2, by decide, by decide, by rw [ka.1, kb.1]; rfl, by simp [Num.valN]⟩
 | [a, b, c], _, key =>
  have ka := key a (by simp)
  have kb := key b (by simp)
  have kc := key c (by simp)
  exact ⟨a.toNat, b.toNat, c.toNat, 0, ka.2, kb.2, kc.2, by decide, by rw [ka.1, kb.1, kc.1]; rfl, by simp [Num.valN]⟩
 | [a, b, c, d], _, key =>
  have ka := key a (by simp)
  have kb := key b (by simp)
  have kc := key c (by simp)
  have kd := key d (by simp)
  exact ⟨a.toNat, b.toNat, c.toNat, d.toNat, ka.2, kb.2, kc.2, kd.2, by rw [ka.1, kb.1, kc.1, kd.1]; rfl, by simp [Num.valN]⟩
 | _ :: _ :: _ :: _ :: _ :: _, hl, _ => exact absurd hl (by simp)
/-- the words that are handed to a copy -/
theorem copy_src {w : World} {A : Option Addr} {l : List Int} (h : Kd.C (Kd.int .u32) w A l.length l) (g : Nat) : 0 < (l.map (Value.int .u32)).length → some (⟨g, 0, none⟩ : Addr) = some ⟨g, 0, none⟩ ∧ ∃ ad, A = some ad ∧ ∀ j v, (l.map (Value.int .u32))[j]? = some v → w.cell? (ad.add j) = some v := by
 intro h0
 rw [List.length_map] at h0
 refine ⟨rfl, ?_⟩
 obtain ⟨ad, hA, _⟩ := Kd.at_int h 0 (by omega) (by omega)
 refine ⟨ad, hA, fun j v hj => ?_⟩
 rw [List.getElem?_map] at hj
 obtain ⟨x, hx, rfl⟩ := Option.map_eq_some_iff.1 hj
 obtain ⟨hlt, hxe⟩ := List.getElem?_eq_some_iff.1 hx
 subst hA
 have := Kd.foot_int h (j : Int) (by omega) (by omega)
 rw [Int.toNat_natCast] at this
 rw [this]
 simp [rd, hx, hxe]
set_option maxRecDepth 100000 in
theorem copy4 {w0 w : World} {A : Option Addr} {l : List Int} {c g : Nat} {a0 a1 a2 a3 : Value} (h : Kd.C (Kd.int .u32) w A l.length l) (hl : l.length ≤ 4) (hb : Below w0.heap.size w0 w) (hg0 : w0.heap.size ≤ g)
  (hg : w.heap[g]? = some (.cells #[.int .u32 0, .int .u32 0, .int .u32 0, .int .u32 0] 130 (0, 0))) (hsp : splice [Value.int .u32 0, .int .u32 0, .int .u32 0, .int .u32 0] 0 (l.map (Value.int .u32)) = [a0, a1, a2, a3]) :
  ∃ w', (Builtin.copy_ #[58, 58] 3 #[.slice (some ⟨g, 0, none⟩) 4 4, .slice A l.length c]).run Tryz.prog w = .ok (.int .i64 (l.length : Int)) w' ∧ w'.heap[g]? = some (.cells #[a0, a1, a2, a3] 130 (0, 0)) ∧ Below w0.heap.size w0 w' := by
 have hsz : (Tryz.prog.info? 35).map (·.size) = some 1 := by kernel_rfl
 by_cases h0 : l.length = 0
 ·obtain rfl : l = [] := List.eq_nil_of_length_eq_zero h0
  refine ⟨w, run_copy_none (P := Tryz.prog) w 58 58 3 35 _ _ 4 4 0 c Tryz.underlying58 hsz rfl, ?_, hb⟩
  have : [Value.int .u32 0, .int .u32 0, .int .u32 0, .int .u32 0] = [a0, a1, a2, a3] := hsp
  injection this with e0 this
  injection this with e1 this
  injection this with e2 this
  injection this with e3 this
  subst e0; subst e1; subst e2; subst e3
  exact hg
 ·obtain ⟨_, ad, hA, hsrc⟩ := copy_src h g (by rw [List.length_map]; omega)
  subst hA
  have hrun := run_copy_row (P := Tryz.prog) w 58 58 3 35 g 0 4 4 ad l.length c #[.int .u32 0, .int .u32 0, .int .u32 0, .int .u32 0] 130 (l.map (Value.int .u32)) Tryz.underlying58 hsz hg (by rw [List.length_map]; exact (Nat.min_eq_left hl).symm) hsrc (by rw [List.length_map]; show 0 + _ ≤ 4; omega) (fun v hv => by
   obtain ⟨x, _, rfl⟩ := List.mem_map.1 hv
   rfl)
  refine ⟨_, by rw [List.length_map] at hrun; exact hrun, ?_, below_setRow hb hg0 _⟩
  have e : (Array.toList #[Value.int .u32 0, .int .u32 0, .int .u32 0, .int .u32 0]).take 0 ++ l.map (Value.int .u32) ++ (Array.toList #[Value.int .u32 0, .int .u32 0, .int .u32 0, .int .u32 0]).drop (0 + l.length) = [a0, a1, a2, a3] := by rw [← hsp]; unfold splice; rw [List.append_assoc, List.length_map]
  rw [e]
  exact setRow_heap w g _ _ 130 _ hg
set_option maxRecDepth 100000 in
/-- at most 128 digits: no cut -/
theorem s_make_short (w : World) (neg : Bool) {v : Value} (m : Nat) (hv : Nm w v m) (hm : m < 2 ^ 128) (e : Int) (he : -100000 ≤ e) (he2 : e ≤ 100000) :
  Calls Tryz.prog 71 #[.bool neg, v, .int .i64 e] w fun x w' => x = .returned (.int .u64 ((sg neg (packN m e 0) : Nat) : Int)) ∧ Below w.heap.size w w' := by
 have hf : Fit m := fit_lt hm (by omega)
 have hl4 : (Num.wordsN m).length ≤ 4 := wordsN_len (by rw [show (4294967296 : Nat) ^ 4 = 2 ^ 128 from rfl]; exact hm)
 have HN := Aside0.mk (n_NormN hv hf)
 have HB := Aside0.mk (Below.refl w.heap.size w)
 have HBits := Aside0.mk (fun (w : World) (v : Value) (h : Nm w v m) => n_Bits h hf)
 have hb := bits_le_128 hm
 obtain ⟨b, hbn⟩ : ∃ b : Int, ((Num.bitsN m : Nat) : Int) = b := ⟨_, rfl⟩
 rw [hbn] at HBits
 have hw1 : IntKind.i64.wrap (b - 128) = b - 128 := i64w_id (by omega) (by omega)
 obtain ⟨n, hn⟩ : ∃ z : Int, b - 128 = z := ⟨_, rfl⟩
 have hw2 : IntKind.i64.wrap (b - 128) = n := by rw [hw1]; exact hn
 have c1 := decide_eq_false (show ¬ (0 : Int) < n by omega)
 have hc : clamp e = e := by unfold clamp; omega
 have m1 : (if e < -100000 then -100000 else e) = e := if_neg (by omega)
 have m2 : (if 100000 < e then 100000 else e) = e := if_neg (by omega)
 have m3 : max e (-100000) = e := by omega
 have m4 : min e 100000 = e := by omega
 obtain ⟨L, hL⟩ : ∃ z : Nat, (Num.wordsN m).length = z := ⟨_, rfl⟩
 rw [hL] at hl4
 have c2 := decide_eq_false (show ¬ (1000 : Int) < (L : Int) by omega)
 have hL' := Aside0.mk hL
 have hl4' := Aside0.mk hl4
 have hc' := Aside0.mk hc
 clear hbn hw1 hn hb hc hL hl4 he he2 hv
 go_enter Tryz.func71, Tryz.ntmps71
 go_upto_region 2 with (first | (go_at_call 85; refine HN.out.mono ?_; rintro e w' ⟨r, rfl, hr, hb⟩; have n0_ := Aside0.mk (below_step HB.out hb); have hr' := Aside0.mk hr; clear HB hb hr; have HB := n0_; clear n0_))
 obtain ⟨A, c, hA, hAc, hC, hV⟩ := hr'.out.open
 rw [hL'.out] at hA hAc hC hV
 subst hA
 have hC' := Aside0.mk hC
 have hAc' := Aside0.mk hAc
 clear hV hC hAc
 go_upto_region 17 with (first | (go_at_call 38; refine (HBits.out _ _ hr'.out).mono ?_; rintro e w2 ⟨rfl, hb⟩; have n0_ := Aside0.mk (below_step HB.out hb); have n1_ := Aside0.mk (Kd.C_below hC'.out hb); clear HB hC' hb hr'; have HB := n0_; have hC' := n1_; clear n0_ n1_) | ((with_reducible refine gate_dst (N := 10) rfl ?_); refine box_event ?hg (N := 10) ?hd (cs := #[.int .u32 0, .int .u32 0, .int .u32 0, .int .u32 0]) (t := 130) ?hr ?_; (case hd => rfl); (case hg => rfl); (case hr => first | (go_simp; done) | (go_simp; rfl)); intro g hg w12 hbox hb; have n0_ := Aside0.mk (below_step HB.out hb); have n1_ := Aside0.mk hbox; have n2_ := Aside0.mk (Kd.C_below hC'.out hb); have n3_ := Aside0.mk ((by rw [hg]; exact (below_size HB.out)) : w.heap.size ≤ g); clear HB hC'; have HB := n0_; have BK := n1_; have hC' := n2_; have GE := n3_; clear n0_ n1_ n2_ n3_; clear hb hbox hg))
 have hsz : (Tryz.prog.info? 35).map (·.size) = some 1 := by kernel_rfl
 obtain ⟨x0, x1, x2, x3, l0, l1, l2, l3, hsp, hval⟩ := four (Num.wordsN m) (Num.wordsN_ok m) (by rw [hL'.out]; exact hl4'.out)
 rw [Num.wordsN_val] at hval
 obtain ⟨w13, hrun, hg13, hb13⟩ := copy4 (c := c) (w0 := w) (by rw [hL'.out]; exact hC'.out) (by rw [hL'.out]; exact hl4'.out) HB.out GE.out BK.out hsp
 rw [hL'.out] at hrun
 have BK' := Aside0.mk hg13
 have HB' := Aside0.mk hb13
 have l0' := Aside0.mk l0
 have l1' := Aside0.mk l1
 have l2' := Aside0.mk l2
 have l3' := Aside0.mk l3
 have hval' := Aside0.mk hval
 clear hg13 hb13 HB BK hC' hsp hsz l0 l1 l2 l3 hval
 go_upto_region 18 with (go_at_call 9999; skip)
 have z0 : w13.cell? ⟨g, 0, none⟩ = some (.int .u32 (x0 : Int)) := (blk_cell BK'.out 0).trans rfl
 have z1 : w13.cell? ⟨g, 1, none⟩ = some (.int .u32 (x1 : Int)) := (blk_cell BK'.out 1).trans rfl
 have z2 : w13.cell? ⟨g, 2, none⟩ = some (.int .u32 (x2 : Int)) := (blk_cell BK'.out 2).trans rfl
 have z3 : w13.cell? ⟨g, 3, none⟩ = some (.int .u32 (x3 : Int)) := (blk_cell BK'.out 3).trans rfl
 have cv : ∀ x : Nat, x < 4294967296 → IntKind.u64.wrap (x : Int) = (x : Int) ∧ IntKind.u64.wrap ((x : Int) * 4294967296) = (x : Int) * 4294967296 := fun x hx => by rw [IntKind.wrap_u64, IntKind.wrap_u64]; omega
 have jn : ∀ x y : Nat, x < 4294967296 → y < 4294967296 → bits .or .u64 ((x : Int) * 4294967296) (y : Int) = ((x * 4294967296 + y : Nat) : Int) := fun x y hx hy => by
  rw [show (x : Int) * 4294967296 = ((x * 4294967296 : Nat) : Int) by omega, u64_or_nat _ _ (by omega) (by omega), nat_join 32 _ _ (Nat.mul_mod_left _ _) hy]
 obtain ⟨v0, u0⟩ := cv x0 l0'.out
 obtain ⟨v1, u1⟩ := cv x1 l1'.out
 obtain ⟨v2, u2⟩ := cv x2 l2'.out
 obtain ⟨v3, u3⟩ := cv x3 l3'.out
 have b0 := l0'.out
 have b1 := l1'.out
 have b2 := l2'.out
 have b3 := l3'.out
 have bv := hval'.out
 have j1 := jn x3 x2 b3 b2
 have j0 := jn x1 x0 b1 b0
 have hhi : ((x3 * 4294967296 + x2 : Nat) : Int) = hiW m := by unfold hiW; congr 1; omega
 have hlo : ((x1 * 4294967296 + x0 : Nat) : Int) = loW m := by unfold loW; congr 1; omega
 rw [hhi] at j1
 rw [hlo] at j0
 have HP : Aside0 (∀ w, Calls Tryz.prog 118 #[.bool neg, .int .u64 (hiW m), .int .u64 (loW m), .int .i64 e, .bool false] w fun x w' => x = .returned (.int .u64 ((sg neg (packN m e 0) : Nat) : Int)) ∧ Below w.heap.size w w') := ⟨fun w => by have := s_pack w neg m hm e false; rw [hc'.out] at this; exact this⟩
 clear b0 b1 b2 b3 bv hhi hlo cv jn
 go_wp2_with (go_at_call 118; (with_reducible refine (HP.out _).mono ?_); rintro e w' ⟨rfl, hb⟩; have n0_ := Aside0.mk (below_step HB'.out hb); clear HB' hb; have HB' := n0_; clear n0_)
 go_ret
 exact ⟨rfl, by repeat (first | exact HB'.out | apply pw_below_drewN)⟩
set_option maxRecDepth 100000 in
/-- more than 128 digits: cut, with what is lost told by the rest -/
theorem s_make_long (w : World) (neg : Bool) {v : Value} (m : Nat) (hv : Nm w v m) (n : Nat) (hn : Num.bitsN m = n + 128) (hn0 : 0 < n) (hn1 : n ≤ 31000) (e : Int) (he : -100000 ≤ e) (he2 : e + n ≤ 100000) :
  Calls Tryz.prog 71 #[.bool neg, v, .int .i64 e] w fun x w' => x = .returned (.int .u64 ((sg neg (packN (m / 2 ^ n) (e + n) (if m % 2 ^ n = 0 then 0 else 1)) : Nat) : Int)) ∧ Below w.heap.size w w' := by
 obtain ⟨res, hres⟩ : ∃ z : Int, ((sg neg (packN (m / 2 ^ n) (e + n) (if m % 2 ^ n = 0 then 0 else 1)) : Nat) : Int) = z := ⟨_, rfl⟩
 rw [hres]
 have HRES := Aside0.mk hres
 clear hres
 have hlt := Num.bitsN_lt m
 have hm0 : 0 < m := by
  rcases Nat.eq_zero_or_pos m with h | h
  ·subst h; rw [Num.bitsN_zero] at hn; omega
  ·exact h
 have hle := Num.bitsN_le hm0
 have hf : Fit m := fit_lt hlt (by omega)
 have hL1 : (Num.wordsN m).length ≤ 1000 := len_lt hlt (by omega)
 have hL2 : n / 32 + 4 ≤ (Num.wordsN m).length := by
  have := wordsN_len_ge (v := m) (n := n / 32 + 3) (by
   refine Nat.le_trans ?_ hle
   rw [show (4294967296 : Nat) = 2 ^ 32 from rfl, ← Nat.pow_mul]
   exact Nat.pow_le_pow_right (by decide) (by omega))
  omega
 have F3 := Aside0.mk (And.intro hlt hle)
 clear hlt hle
 have HN := Aside0.mk (n_NormN hv hf)
 have HB := Aside0.mk (Below.refl w.heap.size w)
 have HBits := Aside0.mk (fun (w : World) (v : Value) (h : Nm w v m) => n_Bits h hf)
 have HS := Aside0.mk (fun (w : World) (v : Value) (h : Nm w v m) => n_Shr h hf n hn0 (by omega))
 obtain ⟨b, hbn⟩ : ∃ b : Int, ((Num.bitsN m : Nat) : Int) = b := ⟨_, rfl⟩
 rw [hbn] at HBits
 obtain ⟨nn, hnn⟩ : ∃ z : Int, (n : Int) = z := ⟨_, rfl⟩
 have hw1 : IntKind.i64.wrap (b - 128) = nn := by rw [i64w_id (by omega) (by omega)]; omega
 have c1 := decide_eq_true (show (0 : Int) < nn by omega)
 have m1 : (if e < -100000 then -100000 else e) = e := if_neg (by omega)
 have m2 : (if 100000 < e then 100000 else e) = e := if_neg (by omega)
 have m3 : max e (-100000) = e := by omega
 have m4 : min e 100000 = e := by omega
 obtain ⟨L, hL⟩ : ∃ z : Nat, (Num.wordsN m).length = z := ⟨_, rfl⟩
 rw [hL] at hL1 hL2
 have c2 := decide_eq_false (show ¬ (1000 : Int) < (L : Int) by omega)
 obtain ⟨k, hk⟩ : ∃ z : Nat, n / 32 = z := ⟨_, rfl⟩
 have hq : Int.tdiv nn 32 = (k : Int) := by rw [← hnn, ← hk]; rfl
 have hqA := Aside0.mk hq
 clear hq
 have hqB := Aside0.mk (show wrap64 (k : Int) = (k : Int) from i64_id (by omega) (by omega))
 have hL' := Aside0.mk hL
 have hL1' := Aside0.mk hL1
 have hL2' := Aside0.mk (show k + 4 ≤ L by omega)
 have F0 := Aside0.mk (And.intro hn (And.intro hn0 (And.intro hn1 (And.intro he he2))))
 have F1 := Aside0.mk hnn
 have F2 := Aside0.mk hk
 clear hbn hn hn0 hn1 hL hL1 hL2 he he2 hv hnn hk hm0 hf
 go_enter Tryz.func71, Tryz.ntmps71
 go_upto_region 2 with (first | (go_at_call 85; refine HN.out.mono ?_; rintro e w' ⟨r, rfl, hr, hb⟩; have n0_ := Aside0.mk (below_step HB.out hb); have hr' := Aside0.mk hr; clear HB hb hr; have HB := n0_; clear n0_))
 obtain ⟨A, c, hA, hAc, hC, hV⟩ := hr'.out.open
 rw [hL'.out] at hA hAc hC hV
 subst hA
 have hC' := Aside0.mk hC
 have hAc' := Aside0.mk hAc
 clear hV hC hAc
 go_upto_region 8 with (go_at_call 38; refine (HBits.out _ _ hr'.out).mono ?_; rintro e w2 ⟨rfl, hb⟩; have n0_ := Aside0.mk (below_step HB.out hb); have n1_ := Aside0.mk (Kd.C_below hC'.out hb); have n2_ := Aside0.mk (hr'.out.below hb); clear HB hC' hb hr'; have HB := n0_; have hC' := n1_; have hr' := n2_; clear n0_ n1_ n2_)
 obtain ⟨ad, rfl, -⟩ := Kd.at_int hC'.out 0 (by omega) (by have := hL2'.out; omega)
 have ck0 : (0 : Int) ≤ (k : Int) := by omega
 have ck1 : (k : Int) ≤ (c : Int) := by have := hL2'.out; have := hAc'.out; omega
 have ck2 : k ≤ c := by omega
 have hq := hqA.out
 have hqw := hqB.out
 go_upto_region 9 with (go_at_call 9999; skip)
 clear hq hqw
 have hLk := Aside0.mk (show k < L by have := hL2'.out; omega)
 have n0_ := Aside0.mk hr'.out
 clear hr'
 have hr' := n0_
 clear n0_
 go_loopg [7, 29] k (fun kq v7 v29 wr => ∃ (i : Nat), v29 = .int .i64 i ∧ v7 = .bool (anyW (Num.wordsN m) i) ∧ Aside0 (i + kq = k) ∧ Aside0 (Kd.C (Kd.int .u32) wr (some ad) L (Num.wordsN m)) ∧ Aside0 (Below w.heap.size w wr) ∧ Aside0 (Nm wr (.slice (some ad) L c) m))
 case atStart => exact ⟨0, rfl, rfl, ⟨by omega⟩, hC', HB, hr'⟩
 case round =>
  clear HB hC' hr'
  obtain ⟨i, rfl, rfl, HQ, hC', HB, hr'⟩ := hrel
  by_cases hlt : i < k
  ·obtain ⟨j, rfl⟩ : ∃ j, gk = j + 1 := ⟨gk - 1, by have := HQ.out; omega⟩
   have hiL : i < L := by have := hLk.out; omega
   have HQ' := Aside0.mk (show i + 1 + j = k by have := HQ.out; omega)
   have hcell := Kd.foot_int hC'.out (i : Int) (by omega) (by omega)
   rw [Int.toNat_natCast] at hcell
   have hs := anyW_succ (Num.wordsN m) i (by rw [hL'.out]; exact hiL)
   obtain ⟨x, hx⟩ : ∃ x, rd (Num.wordsN m) (i : Int) = x := ⟨_, rfl⟩
   rw [hx] at hcell hs
   have HS' := Aside0.mk hs
   have q1 : (i : Int) < (k : Int) := by omega
   have q2 : (0 : Int) ≤ (i : Int) := by omega
   have q3 : (i : Int) < (L : Int) := by omega
   have q4 : wrap64 ((i : Int) + 1) = ((i + 1 : Nat) : Int) := by have := hL1'.out; rw [i64_id (by omega) (by omega)]; omega
   have q5 : IntKind.i64.wrap ((i : Int) + 1) = ((i + 1 : Nat) : Int) := (i64_w _).trans q4
   clear hs hx
   cases hy : anyW (Num.wordsN m) i with
   | true =>
    go_wp2
    go_roundg j
    case measure => omega
    case rel => exact ⟨i + 1, by first | rfl | (rw [q5]) | (rw [q4]), by rw [HS'.out, hy]; rfl, HQ', hC', HB, hr'⟩
   | false =>
    go_wp2
    go_roundg j
    case measure => omega
    case rel => exact ⟨i + 1, by first | rfl | (rw [q5]) | (rw [q4]), by rw [HS'.out, hy]; rfl, HQ', hC', HB, hr'⟩
  ·obtain rfl : gk = 0 := by have := HQ.out; omega
   obtain rfl : k = i := by have := HQ.out; omega
   have q1 : ¬ (k : Int) < (k : Int) := by omega
   go_upto_region 13 with (go_at_call 9999; skip)
   clear q1
   have hcell := Kd.foot_int hC'.out (k : Int) (by omega) (by have := hL2'.out; omega)
   rw [Int.toNat_natCast] at hcell
   have ok := Num.wordsN_ok m
   have q1 : (0 : Int) ≤ (k : Int) := by omega
   have q2 : (k : Int) < (L : Int) := by have := hL2'.out; omega
   obtain ⟨r, hrr⟩ : ∃ z : Nat, n % 32 = z := ⟨_, rfl⟩
   have hr0 : (0 : Int) ≤ (r : Int) := by omega
   have hkL := Aside0.mk (show k < L by have := hL2'.out; omega)
   have hr32 := Aside0.mk (show r < 32 by omega)
   have hmod : Int.tmod nn 32 = (r : Int) := by rw [← F1.out, ← hrr]; rfl
   have hq := hqA.out
   have hqw := hqB.out
   clear ok
   have hMA := Aside0.mk (show m / 2 ^ n < 2 ^ 128 by
    obtain ⟨f1, _⟩ := F3.out
    obtain ⟨g1, _⟩ := F0.out
    rw [Nat.div_lt_iff_lt_mul (Nat.two_pow_pos n), ← Nat.pow_add, Nat.add_comm, ← g1]
    exact f1)
   have hlost := lost_eq (Num.wordsN_ok m) F2.out hrr (by rw [hL'.out]; exact hkL.out)
   rw [Num.wordsN_val] at hlost
   have hmask := mask_eq (Num.wordsN_ok m) (k := k) (r := r) (by rw [hL'.out]; exact hkL.out) hr32.out
   obtain ⟨lb, hlb⟩ : ∃ z : Bool, decide (m % 2 ^ n ≠ 0) = z := ⟨_, rfl⟩
   rw [hlb] at hlost
   obtain ⟨mm, hmm⟩ : ∃ z : Int, -nn = z := ⟨_, rfl⟩
   have HS2 := Aside0.mk HS.out
   rw [F1.out, hmm] at HS2
   have wn : IntKind.i64.wrap (-nn) = mm := by rw [hmm]; clear hq hqw hmod; obtain ⟨_, _, g3, _⟩ := F0.out; have := F1.out; rw [i64w_id (by omega) (by omega)]
   obtain ⟨en, hen⟩ : ∃ z : Int, e + nn = z := ⟨_, rfl⟩
   have we : IntKind.i64.wrap (e + nn) = en := by clear hq hqw hmod wn; obtain ⟨_, g2, g3, g4, g5⟩ := F0.out; have := F1.out; rw [i64w_id (by omega) (by omega)]; exact hen
   have HLB := Aside0.mk hlb
   have HEN := Aside0.mk hen
   clear hlb hen hmm
   cases hy : anyW (Num.wordsN m) k with
   | true =>
    rw [hy] at hlost
    obtain rfl : lb = true := hlost
    clear hmask
    go_quiet (go_at_call 9999)
    go_upto_region 17 with (first | (go_at_call 117; refine (HS2.out _ _ (Kd.V_drewN hr'.out _)).mono ?_; rintro e w2 ⟨r2, rfl, hr2, hb⟩; have n0_ := Aside0.mk (below_step (pw_below_drewN HB.out _) hb); have n1_ := Aside0.mk hr2; clear HB hC' hb hr' hr2; have HB := n0_; have hr' := n1_; clear n0_ n1_) | ((with_reducible refine gate_dst (N := 10) rfl ?_); refine box_event ?hg (N := 10) ?hd (cs := #[.int .u32 0, .int .u32 0, .int .u32 0, .int .u32 0]) (t := 130) ?hr ?_; (case hd => rfl); (case hg => rfl); (case hr => first | (go_simp; done) | (go_simp; rfl)); intro g hg w12 hbox hb; have n0_ := Aside0.mk (below_step HB.out hb); have n1_ := Aside0.mk hbox; have n2_ := Aside0.mk (hr'.out.below hb); have n3_ := Aside0.mk ((by rw [hg]; exact (below_size HB.out)) : w.heap.size ≤ g); clear HB hr'; have HB := n0_; have BK := n1_; have hr' := n2_; have GE := n3_; clear n0_ n1_ n2_ n3_; clear hb hbox hg))
    clear hq hqw hmod hqA hqB wn we m1 m2 m3 m4 hw1
    obtain ⟨Ax, cx, hAx, hAcx, hCx, -⟩ := hr'.out.open
    subst hAx
    have hM := hMA.out
    have hl4 : (Num.wordsN (m / 2 ^ n)).length ≤ 4 := wordsN_len (by rw [show (4294967296 : Nat) ^ 4 = 2 ^ 128 from rfl]; exact hM)
    obtain ⟨x0, x1, x2, x3, l0, l1, l2, l3, hsp, hval⟩ := four (Num.wordsN (m / 2 ^ n)) (Num.wordsN_ok _) hl4
    rw [Num.wordsN_val] at hval
    obtain ⟨w13, hrun, hg13, hb13⟩ := copy4 (c := cx) (w0 := w) hCx hl4 HB.out GE.out BK.out hsp
    have BK' := Aside0.mk hg13
    have HB' := Aside0.mk hb13
    have cv : ∀ x : Nat, x < 4294967296 → IntKind.u64.wrap (x : Int) = (x : Int) ∧ IntKind.u64.wrap ((x : Int) * 4294967296) = (x : Int) * 4294967296 := fun x hx => by rw [IntKind.wrap_u64, IntKind.wrap_u64]; omega
    have jn : ∀ x y : Nat, x < 4294967296 → y < 4294967296 → bits .or .u64 ((x : Int) * 4294967296) (y : Int) = ((x * 4294967296 + y : Nat) : Int) := fun x y hx hy => by
     rw [show (x : Int) * 4294967296 = ((x * 4294967296 : Nat) : Int) by omega, u64_or_nat _ _ (by omega) (by omega), nat_join 32 _ _ (Nat.mul_mod_left _ _) hy]
    obtain ⟨v0, u0⟩ := cv x0 l0
    obtain ⟨v1, u1⟩ := cv x1 l1
    obtain ⟨v2, u2⟩ := cv x2 l2
    obtain ⟨v3, u3⟩ := cv x3 l3
    have j1 := jn x3 x2 l3 l2
    have j0 := jn x1 x0 l1 l0
    obtain ⟨M, hMM⟩ : ∃ z : Nat, m / 2 ^ n = z := ⟨_, rfl⟩
    rw [hMM] at hval hM
    have hhi : ((x3 * 4294967296 + x2 : Nat) : Int) = hiW M := by unfold hiW; congr 1; clear cv jn; omega
    have hlo : ((x1 * 4294967296 + x0 : Nat) : Int) = loW M := by unfold loW; congr 1; clear cv jn; omega
    rw [hhi] at j1
    rw [hlo] at j0
    have hcl : clamp en = en := by
     obtain ⟨_, g2, g3, g4, g5⟩ := F0.out
     have g6 := F1.out
     have g7 := HEN.out
     unfold clamp
     clear v0 v1 v2 v3 u0 u1 u2 u3 j0 j1 cv jn
     omega
    have hif : (if m % 2 ^ n = 0 then 0 else 1) = (if true then 1 else 0 : Nat) := by
     have := HLB.out
     rw [if_neg (of_decide_eq_true this), if_pos rfl]
    have HP : Aside0 (∀ w, Calls Tryz.prog 118 #[.bool neg, .int .u64 (hiW M), .int .u64 (loW M), .int .i64 en, .bool true] w fun x w' => x = .returned (.int .u64 res) ∧ Below w.heap.size w w') := ⟨fun w => by
     have := s_pack w neg M hM en true
     rw [hcl] at this
     rw [← HRES.out, hif, F1.out, HEN.out, hMM]
     exact this⟩
    have hLx := Aside0.mk hl4
    clear hhi hlo cv jn hcl hif hl4 hval hM l0 l1 l2 l3 hMM hsp hg13 hb13 hCx hAcx
    go_upto_region 18 with (go_at_call 9999; skip)
    have z0 : w13.cell? ⟨g, 0, none⟩ = some (.int .u32 (x0 : Int)) := (blk_cell BK'.out 0).trans rfl
    have z1 : w13.cell? ⟨g, 1, none⟩ = some (.int .u32 (x1 : Int)) := (blk_cell BK'.out 1).trans rfl
    have z2 : w13.cell? ⟨g, 2, none⟩ = some (.int .u32 (x2 : Int)) := (blk_cell BK'.out 2).trans rfl
    have z3 : w13.cell? ⟨g, 3, none⟩ = some (.int .u32 (x3 : Int)) := (blk_cell BK'.out 3).trans rfl
    go_wp2_with (go_at_call 118; (with_reducible refine (HP.out _).mono ?_); rintro e w' ⟨rfl, hb⟩; have n0_ := Aside0.mk (below_step HB'.out hb); clear HB' hb; have HB' := n0_; clear n0_)
    go_ret
    exact ⟨rfl, by repeat (first | exact HB'.out | apply pw_below_drewN)⟩
   | false =>
    rw [hy] at hlost
    rw [show (false || decide ((rd (Num.wordsN m) (k : Int)).toNat % 2 ^ r ≠ 0)) = decide ((rd (Num.wordsN m) (k : Int)).toNat % 2 ^ r ≠ 0) from rfl, ← hmask] at hlost
    replace hlost := hlost.symm
    clear hmask
    go_quiet (go_at_call 9999)
    go_upto_region 17 with (first | (go_at_call 117; refine (HS2.out _ _ (Kd.V_drewN hr'.out _)).mono ?_; rintro e w2 ⟨r2, rfl, hr2, hb⟩; have n0_ := Aside0.mk (below_step (pw_below_drewN HB.out _) hb); have n1_ := Aside0.mk hr2; clear HB hC' hb hr' hr2; have HB := n0_; have hr' := n1_; clear n0_ n1_) | ((with_reducible refine gate_dst (N := 10) rfl ?_); refine box_event ?hg (N := 10) ?hd (cs := #[.int .u32 0, .int .u32 0, .int .u32 0, .int .u32 0]) (t := 130) ?hr ?_; (case hd => rfl); (case hg => rfl); (case hr => first | (go_simp; done) | (go_simp; rfl)); intro g hg w12 hbox hb; have n0_ := Aside0.mk (below_step HB.out hb); have n1_ := Aside0.mk hbox; have n2_ := Aside0.mk (hr'.out.below hb); have n3_ := Aside0.mk ((by rw [hg]; exact (below_size HB.out)) : w.heap.size ≤ g); clear HB hr'; have HB := n0_; have BK := n1_; have hr' := n2_; have GE := n3_; clear n0_ n1_ n2_ n3_; clear hb hbox hg))
    clear hq hqw hmod hqA hqB wn we m1 m2 m3 m4 hw1
    obtain ⟨Ax, cx, hAx, hAcx, hCx, -⟩ := hr'.out.open
    subst hAx
    have hM := hMA.out
    have hl4 : (Num.wordsN (m / 2 ^ n)).length ≤ 4 := wordsN_len (by rw [show (4294967296 : Nat) ^ 4 = 2 ^ 128 from rfl]; exact hM)
    obtain ⟨x0, x1, x2, x3, l0, l1, l2, l3, hsp, hval⟩ := four (Num.wordsN (m / 2 ^ n)) (Num.wordsN_ok _) hl4
    rw [Num.wordsN_val] at hval
    obtain ⟨w13, hrun, hg13, hb13⟩ := copy4 (c := cx) (w0 := w) hCx hl4 HB.out GE.out BK.out hsp
    have BK' := Aside0.mk hg13
    have HB' := Aside0.mk hb13
    have cv : ∀ x : Nat, x < 4294967296 → IntKind.u64.wrap (x : Int) = (x : Int) ∧ IntKind.u64.wrap ((x : Int) * 4294967296) = (x : Int) * 4294967296 := fun x hx => by rw [IntKind.wrap_u64, IntKind.wrap_u64]; omega
    have jn : ∀ x y : Nat, x < 4294967296 → y < 4294967296 → bits .or .u64 ((x : Int) * 4294967296) (y : Int) = ((x * 4294967296 + y : Nat) : Int) := fun x y hx hy => by
     rw [show (x : Int) * 4294967296 = ((x * 4294967296 : Nat) : Int) by omega, u64_or_nat _ _ (by omega) (by omega), nat_join 32 _ _ (Nat.mul_mod_left _ _) hy]
    obtain ⟨v0, u0⟩ := cv x0 l0
    obtain ⟨v1, u1⟩ := cv x1 l1
    obtain ⟨v2, u2⟩ := cv x2 l2
    obtain ⟨v3, u3⟩ := cv x3 l3
    have j1 := jn x3 x2 l3 l2
    have j0 := jn x1 x0 l1 l0
    obtain ⟨M, hMM⟩ : ∃ z : Nat, m / 2 ^ n = z := ⟨_, rfl⟩
    rw [hMM] at hval hM
    have hhi : ((x3 * 4294967296 + x2 : Nat) : Int) = hiW M := by unfold hiW; congr 1; clear cv jn; omega
    have hlo : ((x1 * 4294967296 + x0 : Nat) : Int) = loW M := by unfold loW; congr 1; clear cv jn; omega
    rw [hhi] at j1
    rw [hlo] at j0
    have hcl : clamp en = en := by
     obtain ⟨_, g2, g3, g4, g5⟩ := F0.out
     have g6 := F1.out
     have g7 := HEN.out
     unfold clamp
     clear v0 v1 v2 v3 u0 u1 u2 u3 j0 j1 cv jn
     omega
    have hif : (if m % 2 ^ n = 0 then 0 else 1) = (if lb then 1 else 0 : Nat) := by
     have := HLB.out
     cases lb with
     | true => rw [if_neg (of_decide_eq_true this), if_pos rfl]
     | false => rw [if_pos (Decidable.not_not.1 (of_decide_eq_false this)), if_neg (by decide)]
    have HP : Aside0 (∀ w, Calls Tryz.prog 118 #[.bool neg, .int .u64 (hiW M), .int .u64 (loW M), .int .i64 en, .bool lb] w fun x w' => x = .returned (.int .u64 res) ∧ Below w.heap.size w w') := ⟨fun w => by
     have := s_pack w neg M hM en lb
     rw [hcl] at this
     rw [← HRES.out, hif, F1.out, HEN.out, hMM]
     exact this⟩
    have hLx := Aside0.mk hl4
    clear hhi hlo cv jn hcl hif hl4 hval hM l0 l1 l2 l3 hMM hsp hg13 hb13 hCx hAcx
    go_upto_region 18 with (go_at_call 9999; skip)
    have z0 : w13.cell? ⟨g, 0, none⟩ = some (.int .u32 (x0 : Int)) := (blk_cell BK'.out 0).trans rfl
    have z1 : w13.cell? ⟨g, 1, none⟩ = some (.int .u32 (x1 : Int)) := (blk_cell BK'.out 1).trans rfl
    have z2 : w13.cell? ⟨g, 2, none⟩ = some (.int .u32 (x2 : Int)) := (blk_cell BK'.out 2).trans rfl
    have z3 : w13.cell? ⟨g, 3, none⟩ = some (.int .u32 (x3 : Int)) := (blk_cell BK'.out 3).trans rfl
    go_wp2_with (go_at_call 118; (with_reducible refine (HP.out _).mono ?_); rintro e w' ⟨rfl, hb⟩; have n0_ := Aside0.mk (below_step HB'.out hb); clear HB' hb; have HB' := n0_; clear n0_)
    go_ret
    exact ⟨rfl, by repeat (first | exact HB'.out | apply pw_below_drewN)⟩
end Go.Proofs.YtdoeigngpemcgaaGreatDoor.Dec
namespace Go.Proofs.YtdoeigngpemcgaaGreatDoor.Dec
open Go.RowKit Go.Flt Go.Proofs.YtdoeigngpemcgaaGreatDoor.Pure Go.Proofs.YtdoeigngpemcgaaGreatDoorW.PrintWords Go.Proofs.YtdoeigngpemcgaaGreatDoorW.PrintLast Go.Proofs.YtdoeigngpemcgaaGreatDoorW.PrintMore
theorem packN_mk (m : Nat) (e : Int) : packN m e 0 = mkN m e := by
 rcases Nat.eq_zero_or_pos m with h | h
 ·subst h
  unfold packN mkN
  rw [if_pos rfl, if_pos rfl]
 ·rw [packN_eq h (by decide) (fun h => absurd h (by decide)), Nat.add_zero, mkN_double]
theorem packN_cut {m n : Nat} (e : Int) (hn : Num.bitsN m = n + 128) (hn0 : 0 < n) : packN (m / 2 ^ n) (e + n) (if m % 2 ^ n = 0 then 0 else 1) = mkN m e := by
 have hb : Num.bitsN (m / 2 ^ n) = 128 := bits_div (n := 127) (by omega)
 have hpos : 0 < m / 2 ^ n := by
  rcases Nat.eq_zero_or_pos (m / 2 ^ n) with h | h
  ·rw [h, Num.bitsN_zero] at hb
   omega
  ·exact h
 rw [packN_eq hpos (by split <;> decide) (fun _ => by unfold expo; omega)]
 exact make_cut e (by omega)
theorem s_Make (w : World) (neg : Bool) {v : Value} (m : Nat) (hv : Nm w v m) (hb : Num.bitsN m ≤ 31000) (e : Int) (he : -100000 ≤ e) (he2 : e ≤ 100000) (he3 : e + Num.bitsN m ≤ 100128) :
  Calls Tryz.prog 71 #[.bool neg, v, .int .i64 e] w fun x w' => x = .returned (.int .u64 ((sg neg (mkN m e) : Nat) : Int)) ∧ Below w.heap.size w w' := by
 by_cases h : Num.bitsN m ≤ 128
 ·have hm : m < 2 ^ 128 := Nat.lt_of_lt_of_le (Num.bitsN_lt m) (Nat.pow_le_pow_right (by decide) h)
  rw [← packN_mk]
  exact s_make_short w neg m hv hm e he he2
 ·obtain ⟨n, hn⟩ : ∃ n, Num.bitsN m = n + 128 := ⟨Num.bitsN m - 128, by omega⟩
  rw [← packN_cut e hn (by omega)]
  exact s_make_long w neg m hv n hn (by omega) (by omega) e he (by omega)
end Go.Proofs.YtdoeigngpemcgaaGreatDoor.Dec
namespace Go.Proofs.YtdoeigngpemcgaaGreatDoor.Dec
open Go.RowKit Go.Flt Go.Proofs.YtdoeigngpemcgaaGreatDoor.PDec Go.Proofs.YtdoeigngpemcgaaGreatDoor.Pure Go.Proofs.YtdoeigngpemcgaaGreatDoorW.PrintWords Go.Proofs.YtdoeigngpemcgaaGreatDoorW.PrintLast Go.Proofs.YtdoeigngpemcgaaGreatDoorW.PrintMore
theorem abs_and (a : Nat) (ha : a < 18446744073709551616) : bits .andNot .u64 (a : Int) 9223372036854775808 = ((a % 9223372036854775808 : Nat) : Int) := by
 rw [show (9223372036854775808 : Int) = ((9223372036854775808 : Nat) : Int) from rfl, u64_andNot_nat _ _ ha (by decide), show (18446744073709551615 - 9223372036854775808 : Nat) = 2 ^ 63 - 1 from rfl, Nat.and_two_pow_sub_one_eq_mod]
theorem res_four {fn : Func} {t u v x : Tmp} (h : fn.results = #[.tmp t, .tmp u, .tmp v, .tmp x]) (tmps : Array Value) (P : Program) (w : World) :
  (results fn tmps).run P w = .ok (.tuple #[tmps.getD t undef, tmps.getD u undef, tmps.getD v undef, tmps.getD x undef]) w := by
 simp [results, h]
theorem two_V (W : World) (lo hi : Int) : Kd.V (Kd.int .u32) 35 (W.alloc (.cells #[.int .u32 lo, .int .u32 hi] 35)) 0 (fun _ => True) (.slice (some ⟨W.heap.size, 0, none⟩) 2 2) [lo, hi] := by
 have h : Kd.R (Kd.int .u32) 35 (W.alloc (.cells #[.int .u32 lo, .int .u32 hi] 35)) W.heap.size (fun _ => True) (.slice (some ⟨W.heap.size, 0, none⟩) 2 2) [lo, hi] :=
  ⟨fun _ _ => trivial, [.int .u32 lo, .int .u32 hi], World.ownsRow_lit W _ 2 (Nat.le_refl _) (by simp [maxLen]) rfl, Reps.one (show Kd.M (Kd.int .u32) _ _ _ lo [.int .u32 lo] from rfl) (Reps.one (show Kd.M (Kd.int .u32) _ _ _ hi [.int .u32 hi] from rfl) (Reps.none _ _))⟩
 exact Kd.V_mono (Kd.V_map (Kd.R_V (base' := 0) h) (fun _ hf => hf)) (fun _ _ => trivial)
def fnan (a : Nat) : Bool := decide (9218868437227405312 < a % 9223372036854775808)
def finf (a : Nat) : Bool := decide (a % 9223372036854775808 = 9218868437227405312)
def ffin (a : Nat) : Bool := decide (a % 9223372036854775808 < 9218868437227405312)
theorem s_isNaN (w : World) (a : Nat) (ha : a < 18446744073709551616) : Calls Tryz.prog 59 #[.int .u64 (a : Int)] w fun e w' => e = .returned (.bool (fnan a)) ∧ Drawn0 w w' := by
 refine soft_isNaN.calls _ _ w ?_
 unfold soft_isNaN.f fnan
 rw [abs_and a ha]
 congr 1
 rw [decide_eq_decide]
 omega
theorem s_isInf (w : World) (a : Nat) (ha : a < 18446744073709551616) : Calls Tryz.prog 83 #[.int .u64 (a : Int)] w fun e w' => e = .returned (.bool (finf a)) ∧ Drawn0 w w' := by
 refine soft_isInf.calls _ _ w ?_
 unfold soft_isInf.f finf
 rw [abs_and a ha]
 congr 1
 rw [Bool.eq_iff_iff, beq_iff_eq, decide_eq_true_iff]
 omega
theorem ffin_iff (a : Nat) : ffin a = (!(fnan a) && !(finf a)) := by
 unfold ffin fnan finf
 rw [Bool.eq_iff_iff, Bool.and_eq_true, Bool.not_eq_true', Bool.not_eq_true', decide_eq_true_iff, decide_eq_false_iff_not, decide_eq_false_iff_not]
 omega
set_option maxRecDepth 100000 in
theorem s_Split_bad (w : World) (a : Nat) (ha : a < 18446744073709551616) (h : ffin a = false) : Calls Tryz.prog 36 #[.int .u64 (a : Int)] w fun e w' => e = .returned (.tuple #[.bool false, .slice none 0 0, .int .i64 0, .bool false]) ∧ Below w.heap.size w w' := by
 have HN := Aside0.mk (fun w => s_isNaN w a ha)
 have HI := Aside0.mk (fun w => s_isInf w a ha)
 rw [ffin_iff] at h
 obtain ⟨aa, haa⟩ : ∃ z : Int, (a : Int) = z := ⟨_, rfl⟩
 rw [haa] at HN HI ⊢
 have HB := Aside0.mk (Below.refl w.heap.size w)
 cases hn : fnan a with
 | true =>
  rw [hn] at HN
  clear hn h HI ha haa
  go_enter Tryz.func36, Tryz.ntmps36
  go_wp2_with (go_at_call 59; (with_reducible refine (HN.out _).mono ?_); rintro e w' ⟨rfl, ⟨nd, rfl⟩⟩)
  refine bodyPost_ret (res_four rfl _ _ _) rfl ?_
  exact ⟨rfl, by repeat (first | exact HB.out | apply pw_below_drewN)⟩
 | false =>
  have hi : finf a = true := by
   rw [hn] at h
   simpa using h
  rw [hn] at HN
  rw [hi] at HI
  clear hn hi h ha haa
  go_enter Tryz.func36, Tryz.ntmps36
  go_wp2_with (first | (go_at_call 59; (with_reducible refine (HN.out _).mono ?_); rintro e w' ⟨rfl, ⟨nd, rfl⟩⟩) | (go_at_call 83; (with_reducible refine (HI.out _).mono ?_); rintro e w' ⟨rfl, ⟨nd2, rfl⟩⟩))
  refine bodyPost_ret (res_four rfl _ _ _) rfl ?_
  exact ⟨rfl, by repeat (first | exact HB.out | apply pw_below_drewN)⟩
set_option maxRecDepth 100000 in
theorem s_Split_good (w : World) (a : Nat) (ha : a < 18446744073709551616) (h : ffin a = true) : Calls Tryz.prog 36 #[.int .u64 (a : Int)] w fun e w' => ∃ v, e = .returned (.tuple #[.bool (fneg a), v, .int .i64 (fpow a), .bool true]) ∧ Nm w' v (fmant a) ∧ Below w.heap.size w w' := by
 have hu102 := Tryz.underlying102
 have HN := Aside0.mk (fun w => s_isNaN w a ha)
 have HI := Aside0.mk (fun w => s_isInf w a ha)
 have HS := Aside0.mk (fun w => s_split w a ha)
 rw [ffin_iff, Bool.and_eq_true, Bool.not_eq_true', Bool.not_eq_true'] at h
 rw [h.1] at HN
 rw [h.2] at HI
 obtain ⟨aa, haa⟩ : ∃ z : Int, (a : Int) = z := ⟨_, rfl⟩
 rw [haa] at HN HI HS ⊢
 have HB := Aside0.mk (Below.refl w.heap.size w)
 obtain ⟨neg, hneg⟩ : ∃ z, fneg a = z := ⟨_, rfl⟩
 obtain ⟨m, hm⟩ : ∃ z : Int, ((fmant a : Nat) : Int) = z := ⟨_, rfl⟩
 obtain ⟨p, hp⟩ : ∃ z, fpow a = z := ⟨_, rfl⟩
 rw [hneg, hm, hp] at HS
 rw [hneg, hp]
 have hmb : 0 ≤ m ∧ m < 9007199254740992 := by
  have : fmant a < 9007199254740992 := by unfold fmant; split <;> omega
  omega
 obtain ⟨lo, hlo⟩ : ∃ z : Int, m % 4294967296 = z := ⟨_, rfl⟩
 obtain ⟨hi, hhi⟩ : ∃ z : Int, m / 4294967296 = z := ⟨_, rfl⟩
 have hhi2 : hi % 4294967296 = hi := by omega
 have HNorm : Aside0 (∀ w v, Kd.V (Kd.int .u32) 35 w 0 (fun _ => True) v [lo, hi] → Calls Tryz.prog 85 #[v] w fun e w' => ∃ r, e = .returned r ∧ Nm w' r (fmant a) ∧ Below w.heap.size w w') := ⟨fun w v hv => by
  obtain ⟨A, c, rfl⟩ := Kd.V_slice hv
  obtain ⟨_, h2, h3⟩ := Kd.V_reads' hv
  have := n_Norm (l := [lo, hi]) h3 h2 (by intro x hx; simp at hx; rcases hx with rfl | rfl <;> omega) (by simp)
  rw [show Num.valN [lo, hi] = fmant a by simp [Num.valN]; omega] at this
  exact this⟩
 clear h ha haa hmb hm hp hneg
 go_enter Tryz.func36, Tryz.ntmps36
 go_upto_region 4 with (first | (go_at_call 59; (with_reducible refine (HN.out _).mono ?_); rintro e w' ⟨rfl, ⟨nd, rfl⟩⟩) | (go_at_call 83; (with_reducible refine (HI.out _).mono ?_); rintro e w' ⟨rfl, ⟨nd2, rfl⟩⟩) | (go_at_call 84; (with_reducible refine (HS.out _).mono ?_); rintro e w' ⟨rfl, hb⟩; replace HB := Aside0.mk (below_step (by repeat (first | exact HB.out | apply pw_below_drewN)) hb); clear hb))
 obtain ⟨g, hg⟩ : ∃ g, w'.heap.size = g := ⟨_, rfl⟩
 generalize hW : w'.alloc (Obj.cells #[Value.bool neg, Value.int IntKind.u64 m, Value.int IntKind.i64 p] 102) = W1
 have BK := Aside0.mk (show W1.heap[g]? = some (.cells #[.bool neg, .int .u64 m, .int .i64 p] 102 (0, 0)) by rw [← hW, ← hg]; exact blk_new _ _)
 have n0_ := Aside0.mk (show Below w.heap.size w W1 by rw [← hW]; exact HB.out.alloc (below_size HB.out) _)
 clear HB
 have HB := n0_
 clear n0_ hW
 rw [hg]
 clear hg
 have z0 : W1.cell? ⟨g, 0, none⟩ = some (.bool neg) := (blk_cell BK.out 0).trans rfl
 have z1 : W1.cell? ⟨g, 1, none⟩ = some (.int .u64 m) := (blk_cell BK.out 1).trans rfl
 have z2 : W1.cell? ⟨g, 2, none⟩ = some (.int .i64 p) := (blk_cell BK.out 2).trans rfl
 have u1 : IntKind.u32.wrap m = lo := by rw [IntKind.wrap_u32]; exact hlo
 have u2 : IntKind.u32.wrap hi = hi := by rw [IntKind.wrap_u32]; exact hhi2
 go_region_held3 (fun w' => w'.cell? ⟨g, 0, none⟩ = some (.bool neg) ∧ w'.cell? ⟨g, 1, none⟩ = some (.int .u64 m) ∧ w'.cell? ⟨g, 2, none⟩ = some (.int .i64 p) ∧ Below w.heap.size w w')
  (((try go_split_ands); refine ⟨?_, ?_, ?_, ?_⟩ <;> first
   | assumption
   | exact HB.out
   | exact pw_cell_below hb_ (by assumption)
   | exact pw_cell_below (below_drew (Below.refl _ _)) (by assumption)
   | exact pw_cell_below (below_drew (below_alloc (Below.refl _ _) _)) (by assumption)
   | exact pw_cell_below (below_alloc (Below.refl _ _) _) (by assumption)
   | exact below_drew (by assumption)
   | exact below_drew HB.out
   | exact below_alloc HB.out _
   | exact below_drew (below_alloc HB.out _)
   | exact below_alloc (by assumption) _
   | exact below_drew (below_alloc (by assumption) _)
   | exact Below.trans (by assumption) (hb_.mono (Below.size (by assumption)))))
  (first
   | (go_at_call 85; go_split_ands; (refine (HNorm.out _ _ (Kd.V_below (two_V _ lo hi) (by repeat (first | exact Below.refl _ _ | apply below_drew)))).mono ?_); rintro e w2 ⟨r, rfl, hr, hb_⟩; have hr' := Aside0.mk hr; clear hr))
 (try go_split_ands)
 go_wp2
 refine bodyPost_ret (res_four rfl _ _ _) rfl ?_
 exact ⟨_, rfl, hr'.out, by assumption⟩
end Go.Proofs.YtdoeigngpemcgaaGreatDoor.Dec
namespace Go.Read
open Go.Proofs.YtdoeigngpemcgaaGreatDoor
/-- one of some bytes stands first -/
def hasM (of l : List UInt8) : Bool := match l with | [] => false | c :: _ => of.contains c
/-- the first byte, if it is one of those -/
def lead (of l : List UInt8) : Nat := match l with | [] => 0 | c :: _ => if of.contains c then c.toNat else 0
def after (of l : List UInt8) : List UInt8 := if hasM of l then l.tail else l
def minus (l : List UInt8) : Bool := match l with | [] => false | c :: _ => c == 45
def isd (c : UInt8) : Bool := decide (48 ≤ c.toNat) && decide (c.toNat ≤ 57)
/-- the digits ahead, and what stands behind them -/
def dg (l : List UInt8) : List UInt8 := l.takeWhile isd
def past (l : List UInt8) : List UInt8 := l.dropWhile isd
/-- without the zeros ahead -/
def trim0 (l : List UInt8) : List UInt8 := l.dropWhile (· == 48)
/-- what an exponent's digits say, cut at a limit -/
def expo (neg : Bool) (l : List UInt8) : Int :=
 let n : Int := ((if 5 < (trim0 l).length then 99999 else Num.decL 0 (trim0 l) : Nat) : Int)
 if neg then -n else n
theorem dg_past (l : List UInt8) : dg l ++ past l = l := List.takeWhile_append_dropWhile
theorem dg_len (l : List UInt8) : (dg l).length ≤ l.length := by
 have := congrArg List.length (dg_past l)
 rw [List.length_append] at this
 omega
theorem dg_take (l : List UInt8) : l.take (dg l).length = dg l := by
 have : (dg l ++ past l).take (dg l).length = dg l := List.take_left
 rw [dg_past] at this
 exact this
theorem past_drop (l : List UInt8) : l.drop (dg l).length = past l := by
 have : (dg l ++ past l).drop (dg l).length = past l := List.drop_left
 rw [dg_past] at this
 exact this
theorem dg_at (l : List UInt8) (i : Nat) (h : i < (dg l).length) : isd (l[i]'(Nat.lt_of_lt_of_le h (dg_len l))) = true := by
 induction l generalizing i with
 | nil => exact absurd h (by simp [dg])
 | cons c t ih =>
  unfold dg at h
  rw [List.takeWhile_cons] at h
  by_cases k : isd c = true
  ·rw [if_pos k] at h
   cases i with
   | zero => exact k
   | succ i => exact ih i (by simpa [dg] using h)
  ·rw [if_neg k] at h
   exact absurd h (by simp)
theorem dg_end (l : List UInt8) (n : Nat) (hn : n = (dg l).length) (h : n < l.length) : isd (l[n]'h) = false := by
 induction l generalizing n with
 | nil => exact absurd h (by simp)
 | cons c t ih =>
  by_cases k : isd c = true
  ·have e : (dg (c :: t)).length = (dg t).length + 1 := by
    unfold dg
    rw [List.takeWhile_cons, if_pos k, List.length_cons]
   subst hn
   have := ih (dg t).length rfl (by rw [e, List.length_cons] at h; omega)
   simpa [e] using this
  ·have e : (dg (c :: t)).length = 0 := by
    unfold dg
    rw [List.takeWhile_cons, if_neg k]
    rfl
   subst hn
   simpa [e] using k
end Go.Read
namespace Go.Proofs.YtdoeigngpemcgaaGreatDoor.Dec
open Go.RowKit Go.Read Go.Proofs.YtdoeigngpemcgaaGreatDoor.Pure Go.Proofs.YtdoeigngpemcgaaGreatDoorW.PrintWords Go.Proofs.YtdoeigngpemcgaaGreatDoorW.PrintLast Go.Proofs.YtdoeigngpemcgaaGreatDoorW.PrintMore
/-- a text as bytes -/
def bs (l : List UInt8) : ByteArray := ⟨l.toArray⟩
/-- a reader that stands ahead of l -/
def Rd (w : World) (g : Nat) (l : List UInt8) : Prop := w.heap[g]? = some (.cells #[.string (bs l)] 46 (0, 0))
theorem bs_size (l : List UInt8) : (bs l).size = l.length := by
 show l.toArray.size = _
 exact List.size_toArray
theorem bs_list (l : List UInt8) : (bs l).toList = l := ByteArray.toList_mk l
theorem bs_ne {c : UInt8} {l : List UInt8} : ¬ (bs (c :: l)).toList = [] := by rw [bs_list]; exact fun h => by cases h
theorem bs_tail {c : UInt8} {l : List UInt8} : (bs (c :: l)).extract 1 (bs (c :: l)).size = bs l := by
 rw [bs_size]
 show (ByteArray.mk (c :: l).toArray).extract 1 _ = _
 rw [ByteArray.extract_mk]
 show (ByteArray.mk _) = ByteArray.mk _
 congr 2
 show ((c :: l).drop 1).take _ = l
 rw [List.drop_succ_cons, List.drop_zero, List.take_of_length_le (by rw [List.length_cons]; omega)]
theorem index_mark (of : List UInt8) (c : UInt8) : (Lib.indexByte of c < 0) ↔ of.contains c = false := by
 induction of with
 | nil => exact ⟨fun _ => rfl, fun _ => by show (-1 : Int) < 0; decide⟩
 | cons b l ih =>
  have hg := Lib.indexByte_ge l c
  rw [Lib.indexByte, List.contains_cons]
  by_cases h : b = c
  ·rw [if_pos (by simp [h])]
   simp [h]
  ·rw [if_neg (by simpa using h)]
   have h2 : (c == b) = false := by simp; exact fun e => h e.symm
   rw [h2, Bool.false_or, ← ih]
   by_cases d : Lib.indexByte l c = -1
   ·rw [if_pos (by simpa using d)]; omega
   ·rw [if_neg (by simpa using d)]; omega
set_option maxRecDepth 100000 in
theorem d_take (w0 w : World) (g : Nat) (of l : List UInt8) (HB0 : Below w0.heap.size w0 w) (hg : w0.heap.size ≤ g) (h : Rd w g l) :
  Calls Tryz.prog 29 #[.pointer (some ⟨g, 0, none⟩), .string (bs of)] w fun e w' => e = .returned (.tuple #[.int .u8 (lead of l : Nat), .bool (hasM of l)]) ∧ Rd w' g (after of l) ∧ Below w0.heap.size w0 w' := by
 have HB := Aside0.mk HB0
 have HR := Aside0.mk h
 have GE := Aside0.mk hg
 have hu46 := Tryz.underlying46
 have z0 : w.cell? ⟨g, 0, none⟩ = some (.string (bs l)) := (blk_cell h 0).trans rfl
 have f0 := blk_frozen h 0
 clear h HB0 hg
 match l with
 | [] =>
  obtain ⟨s, hs⟩ : ∃ s, bs [] = s := ⟨_, rfl⟩
  have c1 : s.toList = [] := by rw [← hs]; exact bs_list []
  have c2 : s.toList.isEmpty = true := by rw [c1]; rfl
  rw [hs] at z0
  clear hs
  go_enter Tryz.func29, Tryz.ntmps29
  go_wp2
  go_ret2
  exact ⟨rfl, HR.out, HB.out⟩
 | c :: t =>
  have HI := Aside0.mk (fun w => Tryz.strings_IndexByte (bs of) (c.toNat : Nat) w)
  obtain ⟨i, hi⟩ : ∃ i : Int, Lib.indexByte (bs of).data.toList ((c.toNat : Nat) : Int).toNat.toUInt8 = i := ⟨_, rfl⟩
  have hi2 : i = Lib.indexByte of c := by
   rw [← hi]
   congr 1
   exact UInt8.ofNat_toNat
  rw [hi] at HI
  clear hi
  obtain ⟨s, hs⟩ : ∃ s, bs (c :: t) = s := ⟨_, rfl⟩
  have c1 : ¬ s.toList = [] := by rw [← hs]; exact bs_ne
  have c2 : s.toList.isEmpty = false := by rw [← hs, bs_list]; rfl
  have c3 : (0 : Int) < s.size := by rw [← hs, bs_size, List.length_cons]; omega
  have c4 : (1 : Int) ≤ s.size := by omega
  have c5 : ∀ h, s[0]'h = c := fun h => by subst hs; rfl
  have c6 : s.extract 1 s.size = bs t := by rw [← hs]; exact bs_tail
  rw [hs] at z0
  have HR2 := Aside0.mk (show w.heap[g]? = some (.cells #[.string s] 46 (0, 0)) by rw [← hs]; exact HR.out)
  obtain ⟨so, hso⟩ : ∃ s, bs of = s := ⟨_, rfl⟩
  rw [hso] at HI ⊢
  obtain ⟨cn, hcn⟩ : ∃ s, c.toNat = s := ⟨_, rfl⟩
  rw [hcn] at HI
  obtain ⟨v, hv⟩ : ∃ s, bs t = s := ⟨_, rfl⟩
  rw [hv] at c6
  by_cases k : of.contains c = true
  ·have k1 : ¬ i < 0 := by rw [hi2, index_mark, k]; simp
   have k2 := decide_eq_false k1
   have e1 : lead of (c :: t) = cn := by show (if _ then _ else _) = _; rw [if_pos k]; exact hcn
   have e2 : hasM of (c :: t) = true := k
   have e3 : after of (c :: t) = t := by unfold after; rw [e2]; rfl
   rw [e1, e2, e3]
   clear k hi2 e1 e2 e3 hso hs
   have c7 : ∀ h, (s[0]'h).toNat = cn := fun h => by rw [c5 h]; exact hcn
   go_enter Tryz.func29, Tryz.ntmps29
   go_wp2_with (go_at_call 68; (with_reducible refine (HI.out _).mono ?_); rintro e w' ⟨rfl, rfl⟩)
   go_ret2
   refine ⟨rfl, ?_, below_set HB.out GE.out⟩
   unfold Rd
   rw [hv]
   exact blk_put (cs := #[.string s]) HR2.out 0 _ rfl
  ·have k' : of.contains c = false := by cases h : of.contains c with | true => exact absurd h k | false => rfl
   have k1 : i < 0 := by rw [hi2, index_mark, k']
   have k2 := decide_eq_true k1
   have e1 : lead of (c :: t) = 0 := by show (if _ then _ else _) = _; rw [if_neg k]
   have e2 : hasM of (c :: t) = false := k'
   have e3 : after of (c :: t) = c :: t := by unfold after; rw [e2]; rfl
   rw [e1, e2, e3]
   have c7 : ∀ h, (s[0]'h).toNat = cn := fun h => by rw [c5 h]; exact hcn
   clear k k' hi2 e1 e2 e3 hso hs
   go_enter Tryz.func29, Tryz.ntmps29
   go_wp2_with (go_at_call 68; (with_reducible refine (HI.out _).mono ?_); rintro e w' ⟨rfl, rfl⟩)
   go_ret2
   exact ⟨rfl, HR.out, HB.out⟩
theorem d_sign (w0 w : World) (g : Nat) (l : List UInt8) (HB0 : Below w0.heap.size w0 w) (hg : w0.heap.size ≤ g) (h : Rd w g l) :
  Calls Tryz.prog 27 #[.pointer (some ⟨g, 0, none⟩)] w fun e w' => e = .returned (.tuple #[.bool (minus l), .bool (hasM [43, 45] l)]) ∧ Rd w' g (after [43, 45] l) ∧ Below w0.heap.size w0 w' := by
 have HT := Aside0.mk (d_take w0 w g [43, 45] l HB0 hg h)
 have hb : (bs [43, 45]) = ⟨#[43, 45]⟩ := rfl
 rw [hb] at HT
 obtain ⟨a, ha⟩ : ∃ z : Int, ((lead [43, 45] l : Nat) : Int) = z := ⟨_, rfl⟩
 obtain ⟨b, hb⟩ : ∃ z, hasM [43, 45] l = z := ⟨_, rfl⟩
 obtain ⟨n, hn⟩ : ∃ z, minus l = z := ⟨_, rfl⟩
 rw [ha, hb] at HT
 have c1 : (a == 45) = n := by
  rw [← ha, ← hn]
  unfold lead minus
  match l with
  | [] => rfl
  | c :: t =>
   show (((if _ then _ else _ : Nat) : Int) == 45) = (c == 45)
   by_cases k : c = 45
   ·subst k; rfl
   ·have k1 : (c == 45) = false := by simpa using k
    rw [k1]
    have k2 : ¬ c.toNat = 45 := fun e => k (UInt8.toNat_inj.1 e)
    split
    ·rw [beq_eq_false_iff_ne]; omega
    ·rfl
 have c2 : decide (a = 45) = n := by rw [← c1]; exact (Bool.beq_eq_decide_eq _ _).symm
 rw [hn, hb]
 clear h hg HB0 ha hb hn
 go_enter Tryz.func27, Tryz.ntmps27
 go_wp2_with (go_at_call 29; (with_reducible refine HT.out.mono ?_); rintro e w' ⟨rfl, hr, hbw⟩; have hr' := Aside0.mk hr; have hb' := Aside0.mk hbw; clear hr hbw)
 go_ret2
 exact ⟨rfl, hr'.out, hb'.out⟩
theorem bs_get (l : List UInt8) (i : Nat) (h : i < (bs l).size) (h' : i < l.length) : (bs l)[i]'h = l[i] := by
 show (bs l).data[i]'h = _
 simp [bs]
theorem bs_to (l : List UInt8) (n : Nat) : (bs l).extract 0 n = bs (l.take n) := by
 show (ByteArray.mk l.toArray).extract 0 n = _
 rw [ByteArray.extract_mk]
 rfl
theorem bs_from (l : List UInt8) (n : Nat) : (bs l).extract n (bs l).size = bs (l.drop n) := by
 rw [bs_size]
 show (ByteArray.mk l.toArray).extract n l.length = _
 rw [ByteArray.extract_mk, List.take_of_length_le (by rw [List.length_drop]; omega)]
 rfl
set_option maxRecDepth 100000 in
theorem d_digits (w0 w : World) (g : Nat) (l : List UInt8) (hl : l.length ≤ 1000000) (HB0 : Below w0.heap.size w0 w) (hg : w0.heap.size ≤ g) (h : Rd w g l) :
  Calls Tryz.prog 28 #[.pointer (some ⟨g, 0, none⟩)] w fun e w' => e = .returned (.string (bs (dg l))) ∧ Rd w' g (past l) ∧ Below w0.heap.size w0 w' := by
 have HB := Aside0.mk HB0
 have HR := Aside0.mk h
 have GE := Aside0.mk hg
 have hu46 := Tryz.underlying46
 have z0 : w.cell? ⟨g, 0, none⟩ = some (.string (bs l)) := (blk_cell h 0).trans rfl
 have f0 := blk_frozen h 0
 have hlt := blk_lt h
 obtain ⟨s, hs⟩ : ∃ s, bs l = s := ⟨_, rfl⟩
 have hsz : s.size = l.length := by rw [← hs, bs_size]
 obtain ⟨n, hn⟩ : ∃ n, (dg l).length = n := ⟨_, rfl⟩
 have hnl : n ≤ l.length := by rw [← hn]; exact dg_len l
 have hget : ∀ i h h', (s[i]'h) = l[i]'h' := fun i h h' => by subst hs; exact bs_get l i h h'
 have hto : s.extract 0 n = bs (dg l) := by rw [← hs, bs_to, ← hn, dg_take]
 have hfrom : s.extract n s.size = bs (past l) := by rw [← hs, bs_from, ← hn, past_drop]
 have HA : Aside0 (∀ i (h : i < s.size), i < n → isd (s[i]'h) = true) := ⟨fun i h k => by rw [hget i h (by omega)]; exact dg_at l i (by omega)⟩
 have HE : Aside0 (∀ (h : n < s.size), isd (s[n]'h) = false) := ⟨fun h => by rw [hget n h (by omega)]; exact dg_end l n hn.symm (by omega)⟩
 obtain ⟨u, hu⟩ : ∃ s, bs (dg l) = s := ⟨_, rfl⟩
 obtain ⟨v, hv⟩ : ∃ s, bs (past l) = s := ⟨_, rfl⟩
 unfold Rd
 rw [hu] at hto ⊢
 rw [hv] at hfrom ⊢
 rw [hs] at z0
 have HR2 := Aside0.mk (show w.heap[g]? = some (.cells #[.string s] 46 (0, 0)) by rw [← hs]; exact HR.out)
 have HSZ := Aside0.mk (show s.size ≤ 1000000 by omega)
 have HNS := Aside0.mk (show n ≤ s.size by omega)
 clear hget hs h HB0 hg HR hu hv hn hsz hl hnl
 go_enter Tryz.func28, Tryz.ntmps28
 go_wp2
 go_loopg [3] s.size (fun kq v3 wr => ∃ (i : Nat), v3 = .int .i64 (s.size : Nat) ∧ Aside0 (i + kq = s.size ∧ i ≤ n) ∧ Aside0 (wr.heap[w.heap.size]? = some (.stringIter s i)) ∧ Aside0 (Below w.heap.size w wr))
 case atStart => exact ⟨0, rfl, ⟨by omega, by omega⟩, ⟨World.iter_heap w s 0⟩, ⟨(Below.refl _ _).alloc (Nat.le_refl _) _⟩⟩
 case round =>
  obtain ⟨i, rfl, HQ, HT, HW⟩ := hrel
  by_cases hi : i < s.size
  ·have HBW := Aside0.mk (fun p => Lib.below_iterAt HW.out (k := w.heap.size) (Nat.le_refl _) s p)
   by_cases hin : i < n
   ·have hx := HA.out i hi hin
    unfold isd at hx
    rw [Bool.and_eq_true, decide_eq_true_iff, decide_eq_true_iff] at hx
    have hnx : ∀ ty, (Instr.next (.pointer (some ⟨w.heap.size, 0, none⟩)) true ty).run Tryz.prog wr = _ := fun ty => Lib.run_next_any_at wr w.heap.size s i ty HT.out hi
    rw [decode_ascii s i hi (by omega)] at hnx
    obtain ⟨r, hr⟩ : ∃ r : Int, (((s[i]'hi).toNat : Nat) : Int) = r := ⟨_, rfl⟩
    simp only [hr] at hnx
    have c1 := decide_eq_false (show ¬ r < 48 by omega)
    have c2 := decide_eq_false (show ¬ 57 < r by omega)
    have hbw2 := Aside0.mk (HBW.out (i + 1))
    have hit2 := Aside0.mk (Lib.iterAt_heap wr w.heap.size s i (i + 1) HT.out)
    obtain ⟨W1, hW1⟩ : ∃ W1, wr.iterAt w.heap.size s (i + 1) = W1 := ⟨_, rfl⟩
    simp only [hW1] at hnx hbw2 hit2
    obtain ⟨j, rfl⟩ : ∃ j, gk = j + 1 := ⟨gk - 1, by have := HQ.out; omega⟩
    have HQ2 := Aside0.mk (show i + 1 + j = s.size ∧ i + 1 ≤ n by have := HQ.out; omega)
    clear hW1 hr hx HQ
    go_wp2
    go_roundg j
    case measure => omega
    case rel => exact ⟨i + 1, rfl, HQ2, hit2, hbw2⟩
   ·have hin' : i = n := by have := HQ.out.2; omega
    subst hin'
    have hx := HE.out hi
    have hnx : ∀ ty, (Instr.next (.pointer (some ⟨w.heap.size, 0, none⟩)) true ty).run Tryz.prog wr = _ := fun ty => Lib.run_next_any_at wr w.heap.size s i ty HT.out hi
    have hr0 : (Utf8.decode s i).1 < 48 ∨ 57 < (Utf8.decode s i).1 := by
     rcases Nat.lt_or_ge (s[i]'hi).toNat 128 with k | k
     ·rw [decode_ascii s i hi k]
      unfold isd at hx
      rw [Bool.and_eq_false_iff, decide_eq_false_iff_not, decide_eq_false_iff_not] at hx
      show (s[i]'hi).toNat < 48 ∨ 57 < (s[i]'hi).toNat
      omega
     ·have := (decode_high s i hi k).1
      omega
    obtain ⟨r, hr⟩ : ∃ r : Int, (((Utf8.decode s i).1 : Nat) : Int) = r := ⟨_, rfl⟩
    have hr1 : r < 48 ∨ 57 < r := by omega
    have hbw2 := Aside0.mk (HBW.out (i + (Utf8.decode s i).2))
    obtain ⟨W1, hW1⟩ : ∃ W1, wr.iterAt w.heap.size s (i + (Utf8.decode s i).2) = W1 := ⟨_, rfl⟩
    simp only [hW1, hr] at hnx hbw2
    have z1 : W1.cell? ⟨g, 0, none⟩ = some (.string s) := pw_cell_below hbw2.out z0
    have HR3 := Aside0.mk (blk_below HR2.out hbw2.out)
    have f1 := blk_frozen HR3.out 0
    have HB2 := Aside0.mk (below_step HB.out hbw2.out)
    have b1 : (0 : Int) ≤ (i : Int) := by omega
    have b2 : (i : Int) ≤ (s.size : Nat) := by omega
    clear hW1 hr hr0 hx
    rcases Int.lt_or_le r 48 with k | k
    ·have c1 := decide_eq_true k
     clear hr1 k
     go_wp2
     go_ret
     exact ⟨rfl, blk_put (cs := #[.string s]) HR3.out 0 _ rfl, below_set HB2.out GE.out⟩
    ·have c1 := decide_eq_false (show ¬ r < 48 by omega)
     have c2 := decide_eq_true (show 57 < r by omega)
     clear hr1 k
     go_wp2
     go_ret
     exact ⟨rfl, blk_put (cs := #[.string s]) HR3.out 0 _ rfl, below_set HB2.out GE.out⟩
  ·have hin' : n = s.size := by have := HQ.out; have := HNS.out; omega
   have hnx : ∀ ty, (Instr.next (.pointer (some ⟨w.heap.size, 0, none⟩)) true ty).run Tryz.prog wr = _ := fun ty => Lib.run_next_end_at wr w.heap.size s i ty HT.out hi
   have z1 : wr.cell? ⟨g, 0, none⟩ = some (.string s) := pw_cell_below HW.out z0
   have HR3 := Aside0.mk (blk_below HR2.out HW.out)
   have f1 := blk_frozen HR3.out 0
   have HB2 := Aside0.mk (below_step HB.out HW.out)
   rw [hin'] at hto hfrom
   go_wp2
   go_ret
   have e : v = ByteArray.empty := by rw [← hfrom]; simp
   rw [e]
   exact ⟨rfl, blk_put (cs := #[.string s]) HR3.out 0 _ rfl, below_set HB2.out GE.out⟩
theorem bytes_below (w : World) (e : TypeId) (s : ByteArray) : Below w.heap.size w (Lib.bytesWorld w e s) :=
 ⟨rfl, rfl, rfl, by rw [Lib.bytesWorld_size]; omega, fun k hk => Lib.bytesWorld_at_old w e s k (by omega)⟩
theorem atoi_dec (l : List UInt8) (h : Num.digs l = true) : Lib.atoi (48 :: l) = some ((Num.decL 0 l : Nat) : Int) := by
 have key : ∀ (l : List UInt8) (a : Nat), Num.digs l = true → Lib.decFrom a l = some (Num.decL a l) := by
  intro l
  induction l with
  | nil => exact fun _ _ => rfl
  | cons c t ih =>
   intro a h
   have hc := Num.digs_mem h c List.mem_cons_self
   have ht : Num.digs t = true := by
    unfold Num.digs at *
    rw [List.all_eq_true] at *
    exact fun x hx => h x (List.mem_cons_of_mem _ hx)
   have hv : Lib.digitVal c = some (c.toNat - 48) := by unfold Lib.digitVal; rw [if_pos hc]
   unfold Lib.decFrom
   rw [hv]
   exact ih _ ht
 have k := key (48 :: l) 0 (by unfold Num.digs at *; rw [List.all_cons, h]; rfl)
 rw [Lib.atoi, if_neg (by decide), if_neg (by decide)]
 unfold Lib.decNat
 rw [if_neg (by simp), k]
 rfl
set_option maxRecDepth 100000 in
theorem d_exponent (w : World) (neg : Bool) (l : List UInt8) (h : Num.digs l = true) (hl : l.length ≤ 1000000) :
  Calls Tryz.prog 30 #[.bool neg, .string (bs l)] w fun e w' => e = .returned (.int .i64 (expo neg l)) ∧ Below w.heap.size w w' := by
 have hd : Num.digs (trim0 l) = true := by
  unfold Num.digs at *
  rw [List.all_eq_true] at *
  exact fun x hx => h x ((List.dropWhile_sublist _).mem hx)
 have HT : Aside0 (∀ w, Calls Tryz.prog 69 #[.string (bs l), .string ⟨#[48]⟩] w fun x w' => x = .returned (.string (bs (trim0 l))) ∧ w' = w) := ⟨fun w => Tryz.strings_TrimLeft_one (bs l) 48 (by decide) w⟩
 have hle : (trim0 l).length ≤ l.length := (List.dropWhile_sublist _).length_le
 obtain ⟨s, hs⟩ : ∃ s, bs l = s := ⟨_, rfl⟩
 obtain ⟨m, hm⟩ : ∃ m : List UInt8, (if 5 < (trim0 l).length then [57, 57, 57, 57, 57] else trim0 l) = m := ⟨_, rfl⟩
 have hm5 : m.length ≤ 5 := by rw [← hm]; split; decide; omega
 have hmd : Num.digs m = true := by rw [← hm]; split; decide; exact hd
 have hv : expo neg l = if neg then -((Num.decL 0 m : Nat) : Int) else ((Num.decL 0 m : Nat) : Int) := by
  unfold expo
  rw [← hm]
  by_cases k : 5 < (trim0 l).length
  ·rw [if_pos k, if_pos k]; rfl
  ·rw [if_neg k, if_neg k]
 obtain ⟨x, hx⟩ : ∃ x : Int, ((Num.decL 0 m : Nat) : Int) = x := ⟨_, rfl⟩
 have hxb : 0 ≤ x ∧ x < 100000 := by
  have := Num.decL_lt m (Num.digs_mem hmd)
  have : 10 ^ m.length ≤ 10 ^ 5 := Nat.pow_le_pow_right (by decide) hm5
  omega
 have HA : Aside0 (∀ w, Calls Tryz.prog 70 #[.string (bs (48 :: m))] w fun e w' => e = .returned (.tuple #[.int .i64 x, .nilIface]) ∧ Below w.heap.size w w') := ⟨fun w => by
  refine (Tryz.strconv_Atoi (bs (48 :: m)) x (by rw [bs_size, List.length_cons]; omega) (by rw [← hx]; exact atoi_dec m hmd) w).mono ?_
  rintro e w' ⟨rfl, t, rfl⟩
  exact ⟨rfl, bytes_below w 5 t⟩⟩
 obtain ⟨y, hy⟩ : ∃ s, bs (48 :: m) = s := ⟨_, rfl⟩
 rw [hy] at HA
 rw [hs] at HT ⊢
 obtain ⟨t, ht⟩ : ∃ s, bs (trim0 l) = s := ⟨_, rfl⟩
 rw [ht] at HT
 have hts : t.size = (trim0 l).length := by rw [← ht, bs_size]
 rw [hv, hx]
 have HB := Aside0.mk (Below.refl w.heap.size w)
 have w1 : wrap64 (-x) = -x := i64_id (by omega) (by omega)
 have w2 : IntKind.i64.wrap (-x) = -x := (i64_w _).trans w1
 have hcat : ⟨#[48]⟩ ++ bs m = y := by rw [← hy]; apply ByteArray.ext; simp [bs]
 have hsz : ¬ 9223372036854775807 < 1 + (bs m).size := by rw [bs_size]; omega
 by_cases k : 5 < (trim0 l).length
 ·have c1 := decide_eq_true (show (5 : Int) < (t.size : Nat) by omega)
  rw [if_pos k] at hm
  have hmm : bs m = ⟨#[57, 57, 57, 57, 57]⟩ := by rw [← hm]; rfl
  rw [hmm] at hcat hsz
  clear hv hx h hl hd hle hs hm hm5 hmd ht hts hy hmm k hxb
  cases neg <;>
  (go_enter Tryz.func30, Tryz.ntmps30
   go_wp2_with (first | (go_at_call 69; (with_reducible refine (HT.out _).mono ?_); rintro e w' ⟨rfl, rfl⟩) | (go_at_call 70; (with_reducible refine (HA.out _).mono ?_); rintro e w' ⟨rfl, hb⟩; replace HB := bt_ HB hb; clear hb))
   go_ret
   exact ⟨rfl, HB.out⟩)
 ·have c1 := decide_eq_false (show ¬ (5 : Int) < (t.size : Nat) by omega)
  rw [if_neg k] at hm
  have hmm : bs m = t := by rw [← hm]; exact ht
  rw [hmm] at hcat hsz
  clear hv hx h hl hd hle hs hm hm5 hmd ht hts hy hmm k hxb
  cases neg <;>
  (go_enter Tryz.func30, Tryz.ntmps30
   go_wp2_with (first | (go_at_call 69; (with_reducible refine (HT.out _).mono ?_); rintro e w' ⟨rfl, rfl⟩) | (go_at_call 70; (with_reducible refine (HA.out _).mono ?_); rintro e w' ⟨rfl, hb⟩; replace HB := bt_ HB hb; clear hb))
   go_ret
   exact ⟨rfl, HB.out⟩)
end Go.Proofs.YtdoeigngpemcgaaGreatDoor.Dec
namespace Go.Read
open Go.Proofs.YtdoeigngpemcgaaGreatDoor
end Go.Read
namespace Go.Proofs.YtdoeigngpemcgaaGreatDoor.Dec
open Go.RowKit Go.Read Go.Proofs.YtdoeigngpemcgaaGreatDoor.Pure Go.Proofs.YtdoeigngpemcgaaGreatDoorW.PrintWords Go.Proofs.YtdoeigngpemcgaaGreatDoorW.PrintLast Go.Proofs.YtdoeigngpemcgaaGreatDoorW.PrintMore
set_option maxRecDepth 100000 in
theorem r_Of (w : World) (v : Nat) (hv : v < 18446744073709551616) : Calls Tryz.prog 42 #[.int .u64 (v : Int)] w fun e w' => ∃ r, e = .returned r ∧ Nm w' r v ∧ Below w.heap.size w w' := by
 obtain ⟨m, hm⟩ : ∃ z : Int, (v : Int) = z := ⟨_, rfl⟩
 obtain ⟨lo, hlo⟩ : ∃ z : Int, m % 4294967296 = z := ⟨_, rfl⟩
 obtain ⟨hi, hhi⟩ : ∃ z : Int, m / 4294967296 = z := ⟨_, rfl⟩
 have hhi2 : hi % 4294967296 = hi := by omega
 have HNorm : Aside0 (∀ w x, Kd.V (Kd.int .u32) 35 w 0 (fun _ => True) x [lo, hi] → Calls Tryz.prog 99 #[x] w fun e w' => ∃ r, e = .returned r ∧ Nm w' r v ∧ Below w.heap.size w w') := ⟨fun w x hx => by
  obtain ⟨A, c, rfl⟩ := Kd.V_slice hx
  obtain ⟨_, h2, h3⟩ := Kd.V_reads' hx
  have := r_Norm (l := [lo, hi]) h3 h2 (by intro x hx; simp at hx; rcases hx with rfl | rfl <;> omega) (by simp)
  rw [show Num.valN [lo, hi] = v by simp [Num.valN]; omega] at this
  exact this⟩
 have u1 : IntKind.u32.wrap m = lo := by rw [IntKind.wrap_u32]; exact hlo
 have u2 : IntKind.u32.wrap hi = hi := by rw [IntKind.wrap_u32]; exact hhi2
 have HB := Aside0.mk (Below.refl w.heap.size w)
 rw [hm]
 clear hv hm hhi2
 go_enter Tryz.func42, Tryz.ntmps42
 go_wp2_with (go_at_call 99; (refine (HNorm.out _ _ (two_V _ lo hi)).mono ?_); rintro e w2 ⟨r, rfl, hr, hb⟩; have hr' := Aside0.mk hr; replace HB := Aside0.mk (below_step (below_alloc HB.out _) hb); clear hr hb)
 go_ret
 exact ⟨_, rfl, hr'.out, HB.out⟩
end Go.Proofs.YtdoeigngpemcgaaGreatDoor.Dec
namespace Go.Proofs.YtdoeigngpemcgaaGreatDoor.Dec
open Go.RowKit Go.Div Go.Proofs.YtdoeigngpemcgaaGreatDoor.PNat Go.Proofs.YtdoeigngpemcgaaGreatDoor.Pure Go.Proofs.YtdoeigngpemcgaaGreatDoorW.PrintWords Go.Proofs.YtdoeigngpemcgaaGreatDoorW.PrintLast Go.Proofs.YtdoeigngpemcgaaGreatDoorW.PrintMore
theorem one_V (W : World) (x : Int) : Kd.V (Kd.int .u32) 35 (W.alloc (.cells #[.int .u32 x] 35)) 0 (fun _ => True) (.slice (some ⟨W.heap.size, 0, none⟩) 1 1) [x] := by
 have h : Kd.R (Kd.int .u32) 35 (W.alloc (.cells #[.int .u32 x] 35)) W.heap.size (fun _ => True) (.slice (some ⟨W.heap.size, 0, none⟩) 1 1) [x] :=
  ⟨fun _ _ => trivial, [.int .u32 x], World.ownsRow_lit W _ 1 (Nat.le_refl _) (by simp [maxLen]) rfl, Reps.one (show Kd.M (Kd.int .u32) _ _ _ x [.int .u32 x] from rfl) (Reps.none _ _)⟩
 exact Kd.V_mono (Kd.V_map (Kd.R_V (base' := 0) h) (fun _ hf => hf)) (fun _ _ => trivial)
set_option maxRecDepth 100000 in
theorem r_small (w : World) {v : Value} {a : Nat} (h0 : Nm w v a) (fa : Fit a) (d : Nat) (hd0 : 0 < d) (hd : d < 4294967296) :
  Calls Tryz.prog 142 #[v, .int .u32 (d : Int)] w fun e w' => ∃ q r, e = .returned (.tuple #[q, r]) ∧ Nm w' q (a / d) ∧ Nm w' r (a % d) ∧ Below w.heap.size w w' := by
 obtain ⟨A, c, rfl, hlc, hC, _⟩ := h0.open
 obtain ⟨la, hla⟩ : ∃ l, Num.wordsN a = l := ⟨_, rfl⟩
 have hok := Num.wordsN_ok a
 have hval := Num.wordsN_val a
 have hlen : (Num.wordsN a).length ≤ 2000 := fa
 rw [hla] at hC hlc hok hval hlen ⊢
 obtain ⟨n, hn⟩ : ∃ n, la.length = n := ⟨_, rfl⟩
 rw [hn] at hC hlc hlen ⊢
 have HC := Aside0.mk hC
 have HOK := Aside0.mk hok
 have HN := Aside0.mk (show la.length = n ∧ n ≤ 2000 from ⟨hn, hlen⟩)
 have HV := Aside0.mk hval
 have HD := Aside0.mk (show 0 < d ∧ d < 4294967296 from ⟨hd0, hd⟩)
 have HB := Aside0.mk (Below.refl w.heap.size w)
 obtain ⟨dd, hdd⟩ : ∃ z : Int, (d : Int) = z := ⟨_, rfl⟩
 have HDD := Aside0.mk hdd
 have w1 : wrap64 ((n : Int) - 1) = (n : Int) - 1 := i64_id (by omega) (by omega)
 have w2 : IntKind.i64.wrap ((n : Int) - 1) = (n : Int) - 1 := (i64_w _).trans w1
 have o1 : (0 : Int) ≤ (n : Int) := by omega
 have o2 : ((n : Int)).toNat ≤ 70368744177664 := by omega
 have p1 := decide_eq_true o1
 have p2 := decide_eq_true o2
 rw [hdd]
 clear h0 fa hla hok hval hlen hn hlc hC hd0 hd hdd
 go_enter Tryz.func142, Tryz.ntmps142
 go_wp2_with ((with_reducible refine gate_dst (N := 11) rfl ?_); refine Kd.R_make (Kd.int .u32) _ 35 rfl (N := 11) rfl 58 _ _ rfl (n : Int) rfl rfl Tryz.underlying58 (.int .u32 0) 4 info35 rfl (by decide) (by omega) 0 (ok := fun _ => True) (okp := fun _ => True) rfl (fun _ hk => hk) trivial o1 (Nat.le_trans (Nat.mul_le_mul_right _ o2) (by omega)) (Below.refl _ _) (Nat.le_refl _) ?_; intro vq wq ho hb hg_ hnew_; clear hg_ hnew_; have HO := Aside0.mk (Kd.R_lower ho (below_size HB.out)); have n1_ := Aside0.mk (below_step HB.out hb); clear HB; have HB := n1_; clear n1_; clear hb ho)
 rw [Int.toNat_natCast] at HO
 have hrep : ∀ z ∈ List.replicate n (0 : Int), 0 ≤ z ∧ z < 4294967296 := fun z hz => by rw [List.eq_of_mem_replicate hz]; decide
 have hend : hi (List.replicate n 0) n = 0 := by
  have := hi_end (List.replicate n 0)
  rw [List.length_replicate] at this
  exact this
 have hendA : hi la n = 0 := by rw [← HN.out.1]; exact hi_end la
 go_loopg [7, 8] n (fun kq v7 v8 wr => ∃ (x : List Int) (r : Nat), v7 = .int .u64 (r : Int) ∧ v8 = .int .i64 ((kq : Int) - 1) ∧ Aside0 (kq ≤ n ∧ x.length = n ∧ Num.okW x) ∧ Aside0 (hi x kq = hi la kq / d ∧ r = hi la kq % d) ∧ Aside0 (Kd.R (Kd.int .u32) 35 wr w.heap.size (fun _ => True) vq x) ∧ Aside0 (Below w.heap.size w wr))
 case atStart => exact ⟨List.replicate n 0, 0, rfl, by first | rfl | (rw [w1]) | (rw [w2]), ⟨Nat.le_refl _, List.length_replicate, hrep⟩, ⟨by rw [hend, hendA, Nat.zero_div, Nat.zero_mod]; exact ⟨rfl, rfl⟩⟩, HO, HB⟩
 case round =>
  clear HO HB hrep hend hendA
  obtain ⟨x, r, rfl, h8, HQ, HI, HO, HB⟩ := hrel
  cases gk with
  | zero =>
   rw [show ((0 : Nat) : Int) - 1 = -1 from rfl] at h8
   subst h8
   have hq : Num.valN x = a / d := by have := HI.out.1; rw [hi_zero, hi_zero, HV.out] at this; exact this
   have hr : r = a % d := by have := HI.out.2; rw [hi_zero, HV.out] at this; exact this
   have HN1 := Aside0.mk (fun (wq : World) (hB : Below w.heap.size w wq) (hx : Kd.R (Kd.int .u32) 35 wq w.heap.size (fun _ => True) vq x) => r_NormV (Kd.V_mono (Kd.V_map (Kd.R_V (base' := 0) hx) (fun _ hf => hf)) (fun _ _ => trivial)) HQ.out.2.2 (by have := HQ.out; have := HN.out; omega))
   rw [hq] at HN1
   have hrd : r < d := by rw [hr]; exact Nat.mod_lt _ HD.out.1
   obtain ⟨rr, hrr⟩ : ∃ z : Int, (r : Int) = z := ⟨_, rfl⟩
   have HN2 := Aside0.mk (fun (W : World) => r_NormV (one_V W rr) (by intro z hz; rw [List.mem_singleton.1 hz]; have := HD.out; omega) (by simp))
   rw [show Num.valN [rr] = a % d by rw [← hr]; simp [Num.valN]; omega] at HN2
   have u1 : IntKind.u32.wrap rr = rr := by rw [IntKind.wrap_u32]; have := HD.out; omega
   rw [hrr]
   clear hrr hrd hr hq
   go_wp2_with (first
    | (go_at_call 99; (with_reducible refine (HN1.out _ HB.out HO.out).mono ?_); rintro e w' ⟨q1, rfl, hr, hb⟩; have hq1 := Aside0.mk hr; replace HB := bt_ HB hb; clear hb hr)
    | (go_at_call 99; (refine (HN2.out _).mono ?_); rintro e w' ⟨q2, rfl, hr, hb⟩; have hq2 := Aside0.mk hr; replace hq1 := Aside0.mk ((hq1.out.below (below_alloc (Below.refl _ _) _)).below hb); replace HB := Aside0.mk (below_step (below_alloc HB.out _) hb); clear hb hr))
   go_ret2
   exact ⟨_, _, rfl, hq1.out, hq2.out, HB.out⟩
  | succ i =>
   rw [show ((i + 1 : Nat) : Int) - 1 = (i : Int) by omega] at h8
   subst h8
   have hin : i < n := by have := HQ.out.1; omega
   have hil : i < la.length := by have := HN.out.1; omega
   have hix : i < x.length := by have := HQ.out.2.1; omega
   obtain ⟨g1, g2⟩ := get_nat HOK.out hil
   obtain ⟨wi, hwi⟩ : ∃ z : Nat, (la[i]).toNat = z := ⟨_, rfl⟩
   rw [hwi] at g1 g2
   obtain ⟨ad, hA, hz0⟩ := Kd.at_int HC.out (i : Int) (by omega) (by omega)
   subst hA
   have hrd : rd la (i : Int) = (wi : Int) := by
    unfold rd
    rw [Int.toNat_natCast, List.getD_eq_getElem?_getD, List.getElem?_eq_getElem hil]
    exact g1.symm
   rw [hrd, Int.toNat_natCast] at hz0
   have hz := pw_cell_below HB.out hz0
   obtain ⟨go, co, rfl, gb, gl, cl, HG⟩ := Kd.R_form HO.out (by omega)
   obtain ⟨hx, hf⟩ := Kd.R_celln 0 HO.out (i : Int) (by omega) (by omega)
   rw [Int.toNat_natCast] at hx hf
   obtain ⟨y, hy⟩ : ∃ z : Nat, (r * 4294967296 + wi) / d = z := ⟨_, rfl⟩
   obtain ⟨r2, hr2⟩ : ∃ z : Nat, (r * 4294967296 + wi) % d = z := ⟨_, rfl⟩
   have hrl : r < d := by rw [HI.out.2]; exact Nat.mod_lt _ HD.out.1
   have hyl : y < 4294967296 := by rw [← hy]; exact step_lt hrl g2
   have c1 : (0 : Int) ≤ (i : Int) := by omega
   have c2 : (i : Int) < (n : Int) := by omega
   have c3 : (i : Int) < (x.length : Int) := by omega
   obtain ⟨s, hs⟩ : ∃ z : Int, ((r * 4294967296 + wi : Nat) : Int) = z := ⟨_, rfl⟩
   obtain ⟨wv, hwv⟩ : ∃ z : Int, (wi : Int) = z := ⟨_, rfl⟩
   obtain ⟨rv, hrv⟩ : ∃ z : Int, (r : Int) = z := ⟨_, rfl⟩
   obtain ⟨yv, hyv⟩ : ∃ z : Int, (y : Int) = z := ⟨_, rfl⟩
   obtain ⟨r2v, hr2v⟩ : ∃ z : Int, (r2 : Int) = z := ⟨_, rfl⟩
   have hdd := HDD.out
   have b1 : bits .or .u64 (rv * 4294967296) wv = s := by
    rw [← hrv, ← hwv, show (r : Int) * 4294967296 = ((r * 4294967296 : Nat) : Int) by omega, u64_or_nat _ _ (by have := HD.out; omega) (by omega), ← hs]
    congr 1
    have p32 : (2 : Nat) ^ 32 = 4294967296 := rfl
    exact nat_join 32 (r * 4294967296) wi (by rw [p32]; exact Nat.mul_mod_left _ _) (by rw [p32]; exact g2)
   have b2 : IntKind.u64.wrap (rv * 4294967296) = rv * 4294967296 := by rw [IntKind.wrap_u64]; have := HD.out; omega
   have d1 : IntKind.u64.wrap dd = dd := by rw [IntKind.wrap_u64]; have := HD.out; omega
   have d2 : s.tdiv dd = yv := by
    rw [← hs, ← hdd, ← hyv, ← hy]
    exact (Int.ofNat_tdiv _ _).symm
   have d5 : s.tmod dd = r2v := by
    rw [← hs, ← hdd, ← hr2v, ← hr2]
    exact (Int.ofNat_tmod _ _).symm
   have d9 : ¬ dd = 0 := by have := HD.out; omega
   have d10 : IntKind.u64.wrap wv = wv := by rw [IntKind.wrap_u64]; omega
   have d3 : IntKind.u64.wrap yv = yv := by rw [IntKind.wrap_u64]; omega
   have d4 : IntKind.u32.wrap yv = yv := by rw [IntKind.wrap_u32]; omega
   have d6 : yv % 4294967296 = yv := by omega
   have d7 : wrap64 ((i : Int) - 1) = (i : Int) - 1 := by have := HN.out; rw [i64_id (by omega) (by omega)]
   have d8 : IntKind.i64.wrap ((i : Int) - 1) = (i : Int) - 1 := (i64_w _).trans d7
   have HP := Aside0.mk (Kd.R_putg HO.out (i : Int) yv)
   rw [Int.toNat_natCast] at HP
   have GB := Aside0.mk gb
   have HQ2 := Aside0.mk (show i ≤ n ∧ (x.set i yv).length = n ∧ Num.okW (x.set i yv) from ⟨by omega, by rw [List.length_set]; exact HQ.out.2.1, okW_set HQ.out.2.2 i (by omega)⟩)
   have HI2 := Aside0.mk (show hi (x.set i yv) i = hi la i / d ∧ r2 = hi la i % d from by
    obtain ⟨s1, s2⟩ := step_div (h := hi la (i + 1)) (w := wi) HD.out.1
    rw [hi_set hix, hi_step hil, hwi, HI.out.1, s1, s2, ← HI.out.2, hy, hr2]
    refine ⟨?_, rfl⟩
    congr 1
    omega)
   rw [hwv] at hz
   rw [hrv]
   have HR2 := Aside0.mk hr2v
   clear hs hwv hrv hyv hr2v hdd g1 g2 hwi hrd hz0 hy hr2 hrl hyl gb gl cl HG hix hil hin HI HO
   go_wp2
   go_roundg i
   case measure => omega
   case rel => exact ⟨x.set i yv, r2, by rw [HR2.out], by first | rfl | rw [d7] | rw [d8], HQ2, HI2, ⟨HP.out.1⟩, ⟨below_set HB.out GB.out⟩⟩
end Go.Proofs.YtdoeigngpemcgaaGreatDoor.Dec
namespace Go.Proofs.YtdoeigngpemcgaaGreatDoor.Dec
open Go.RowKit Go.Proofs.YtdoeigngpemcgaaGreatDoorW.PrintWords Go.Proofs.YtdoeigngpemcgaaGreatDoorW.PrintLast Go.Proofs.YtdoeigngpemcgaaGreatDoorW.PrintMore
attribute [local go_sem] max2_int min2_int max_two min_two max_three min_three max_four min_four
theorem d_times (w : World) {v u : Value} {a b : Nat} (h0 : Nm w v a) (h1 : Nm w u b) (fa : Fit a) (fb : Fit b) (hf : Fit (a * b)) :
  Calls Tryz.prog 73 #[v, u] w fun e w' => ∃ r, e = .returned r ∧ Nm w' r (a * b) ∧ Below w.heap.size w w' := by
 have HM := Aside0.mk (n_Mul h0 h1 fa fb hf)
 clear h0 h1
 go_enter Tryz.func73, Tryz.ntmps73
 go_wp2_with (go_at_call 121; refine HM.out.mono ?_; rintro e w' ⟨r, rfl, hr, hb⟩; have hr' := Aside0.mk hr; have hb' := Aside0.mk hb; clear hr hb)
 go_ret
 exact ⟨_, rfl, hr'.out, hb'.out⟩
theorem d_shifted (w : World) {v : Value} {a : Nat} (h0 : Nm w v a) (fa : Fit a) (m : Nat) (hm : m ≤ 64000) (hf : Fit (a * 2 ^ m)) :
  Calls Tryz.prog 76 #[v, .int .i64 (m : Int)] w fun e w' => ∃ r, e = .returned r ∧ Nm w' r (a * 2 ^ m) ∧ Below w.heap.size w w' := by
 have HM := Aside0.mk (n_Shl h0 fa m hm hf)
 obtain ⟨mm, hmm⟩ : ∃ z : Int, (m : Int) = z := ⟨_, rfl⟩
 rw [hmm] at HM ⊢
 clear h0
 go_enter Tryz.func76, Tryz.ntmps76
 go_wp2_with (go_at_call 117; refine HM.out.mono ?_; rintro e w' ⟨r, rfl, hr, hb⟩; have hr' := Aside0.mk hr; have hb' := Aside0.mk hb; clear hr hb)
 go_ret
 exact ⟨_, rfl, hr'.out, hb'.out⟩
theorem d_ten (w : World) (n : Int) (hn : n ≤ 1500) :
  Calls Tryz.prog 74 #[.int .i64 n] w fun e w' => ∃ r, e = .returned r ∧ Nm w' r (10 ^ n.toNat) ∧ Below w.heap.size w w' := by
 obtain ⟨c, hc⟩ : ∃ c : Int, max n 0 = c := ⟨_, rfl⟩
 have hc' : c = (n.toNat : Int) := by omega
 have hcb : (if n < 0 then 0 else n) = c := by split <;> omega
 have hrep : ∀ k, Lib.repeatL [48] k = List.replicate k 48 := fun k => by
  induction k with
  | zero => rfl
  | succ k ih => rw [Lib.repeatL, ih, List.replicate_succ]; rfl
 have hdec : ∀ k, Num.decL 0 (49 :: List.replicate k 48) = 10 ^ k := fun k => by
  have h : ∀ k a, Num.decL a (List.replicate k 48) = a * 10 ^ k := fun k => by
   induction k with
   | zero => intro a; exact (Nat.mul_one a).symm
   | succ k ih =>
    intro a
    have h1 : Num.decL a (List.replicate (k + 1) 48) = Num.decL (a * 10 + 0) (List.replicate k 48) := rfl
    rw [h1, ih, Nat.pow_succ, Nat.add_zero, Nat.mul_assoc, Nat.mul_comm (10 ^ k) 10]
  have h1 : Num.decL 0 (49 :: List.replicate k 48) = Num.decL 1 (List.replicate k 48) := rfl
  rw [h1, h]
  exact Nat.one_mul _
 have hfit : Fit (10 ^ n.toNat) := by
  refine fit_lt (b := 4 * n.toNat + 1) ?_ (by omega)
  rw [Nat.pow_succ, Nat.pow_mul]
  have := Nat.pow_le_pow_left (show 10 ≤ 2 ^ 4 by decide) n.toNat
  have h1 := Nat.two_pow_pos (4 * n.toNat)
  rw [Nat.pow_mul] at h1
  omega
 have HP : Aside0 (∀ w, Calls Tryz.prog 72 #[.string ⟨(49 :: List.replicate n.toNat 48).toArray⟩] w fun e w' => ∃ v, e = .returned (.tuple #[v, .int .i64 0]) ∧ Nm w' v (10 ^ n.toNat) ∧ Below w.heap.size w w') := ⟨fun w => by
  have := n_Parse (w := w) ⟨(49 :: List.replicate n.toNat 48).toArray⟩ (by unfold Num.digs; rw [List.all_eq_true]; intro x hx; rcases List.mem_cons.1 hx with rfl | hx; decide; rw [List.eq_of_mem_replicate hx]; decide) (by simp) (by simp; omega) (by show Fit (Num.decL 0 (49 :: List.replicate n.toNat 48)); rw [hdec]; exact hfit)
  show Calls Tryz.prog 72 _ w _
  rw [show Num.decL 0 (⟨(49 :: List.replicate n.toNat 48).toArray⟩ : ByteArray).data.toList = 10 ^ n.toNat from hdec _] at this
  exact this⟩
 have HR : Aside0 (∀ w, Calls Tryz.prog 37 #[.string ⟨#[48]⟩, .int .i64 c] w fun e w' => e = .returned (.string ⟨(List.replicate n.toNat 48).toArray⟩) ∧ Below w.heap.size w w') := ⟨fun w => by
  rw [hc']
  rw [← hrep]; exact Tryz.strings_Repeat ⟨#[48]⟩ n.toNat w (by omega) (by show 1 * _ ≤ _; omega)⟩
 have hcat : (⟨#[49]⟩ : ByteArray) ++ ⟨(List.replicate n.toNat 48).toArray⟩ = ⟨(49 :: List.replicate n.toNat 48).toArray⟩ := by
  apply ByteArray.ext
  simp
 obtain ⟨zz, hz⟩ : ∃ z : ByteArray, (⟨(List.replicate n.toNat 48).toArray⟩ : ByteArray) = z := ⟨_, rfl⟩
 obtain ⟨yy, hy⟩ : ∃ z : ByteArray, (⟨(49 :: List.replicate n.toNat 48).toArray⟩ : ByteArray) = z := ⟨_, rfl⟩
 rw [hz, hy] at hcat
 rw [hz] at HR
 rw [hy] at HP
 have HB := Aside0.mk (Below.refl w.heap.size w)
 have hl : ¬ 9223372036854775807 < 1 + zz.size := by
  rw [← hz]
  show ¬ 9223372036854775807 < 1 + (List.replicate n.toNat (48 : UInt8)).toArray.size
  rw [List.size_toArray, List.length_replicate]
  omega
 clear hz hy hrep hdec hfit hc'
 go_enter Tryz.func74, Tryz.ntmps74
 go_wp2_with (first | (go_at_call 37; (with_reducible refine (HR.out _).mono ?_); rintro e w' ⟨rfl, hb⟩; replace HB := bt_ HB hb; clear hb) | (go_at_call 72; (with_reducible refine (HP.out _).mono ?_); rintro e w' ⟨r, rfl, hr, hb⟩; have n0_ := Aside0.mk (below_step HB.out hb); have hr' := Aside0.mk hr; clear HB hb hr; have HB := n0_; clear n0_))
 go_ret
 exact ⟨_, rfl, hr'.out, HB.out⟩
end Go.Proofs.YtdoeigngpemcgaaGreatDoor.Dec
namespace Go.Flt
open Go.Num
theorem mkN_pow (m k : Nat) (e : Int) : mkN (m * 2 ^ k) (e - k) = mkN m e := by
 induction k with
 | zero => rw [Nat.pow_zero, Nat.mul_one]; congr 1; omega
 | succ k ih =>
  rw [Nat.pow_succ, ← Nat.mul_assoc, Nat.mul_comm _ 2, show e - ((k + 1 : Nat) : Int) = e - k - 1 by omega, mkN_double]
  exact ih
theorem fl_one {p : Nat} (hp : 0 < p) : fl p 1 = mkN p 0 := by
 have h := fl_at (p := p) (q := 1) hp (by decide) (bitsN 1 + 53) (Nat.le_refl _)
 rw [← h]
 have : sq (p * 2 ^ (bitsN 1 + 53)) 1 = 2 * (p * 2 ^ (bitsN 1 + 53)) := by
  unfold sq
  rw [Nat.div_one, Nat.mod_one, if_pos rfl, Nat.add_zero]
 rw [this, mkN_double]
 have := mkN_pow p (bitsN 1 + 53) 0
 rw [Int.zero_sub] at this
 exact this
/-- digits m times ten to the e, as a pattern without a sign -/
def flt (m : Nat) (e : Int) : Nat := if m = 0 then 0 else if 0 ≤ e then fl (m * 10 ^ e.toNat) 1 else fl m (10 ^ (-e).toNat)
/-- a quotient cut with a rest is the float of it -/
theorem quo_dec {m d k : Nat} (hm : 0 < m) (hd : 0 < d) (hk : bitsN d + 53 ≤ k) : mkN (2 * (m * 2 ^ k / d) + (if m * 2 ^ k % d = 0 then 0 else 1)) (-(k : Int) - 1) = fl m d := by
 have h := fl_at hm hd k hk
 unfold sq at h
 exact h
end Go.Flt
namespace Go.Proofs.YtdoeigngpemcgaaGreatDoor.Dec
open Go.RowKit Go.Flt Go.Proofs.YtdoeigngpemcgaaGreatDoor.Pure Go.Proofs.YtdoeigngpemcgaaGreatDoorW.PrintWords Go.Proofs.YtdoeigngpemcgaaGreatDoorW.PrintLast Go.Proofs.YtdoeigngpemcgaaGreatDoorW.PrintMore
/-- nothing but zeros, or far below -/
theorem d_float_zero (w : World) (neg : Bool) (s t : ByteArray) (ht : t = ⟨(Lib.trimLeftB s.data.toList 48).toArray⟩) (e : Int) (h : t = ⟨#[]⟩ ∨ e < -900) :
  Calls Tryz.prog 31 #[.bool neg, .string s, .int .i64 e] w fun x w' => x = .returned (.int .u64 ((sg neg 0 : Nat) : Int)) ∧ Below w.heap.size w w' := by
 have HT : Aside0 (∀ w, Calls Tryz.prog 69 #[.string s, .string ⟨#[48]⟩] w fun x w' => x = .returned (.string t) ∧ w' = w) := ⟨fun w => by rw [ht]; exact Tryz.strings_TrimLeft_one s 48 (by decide) w⟩
 have HM : Aside0 (∀ w, Calls Tryz.prog 71 #[.bool neg, .slice none 0 0, .int .i64 0] w fun x w' => x = .returned (.int .u64 ((sg neg 0 : Nat) : Int)) ∧ Below w.heap.size w w') := ⟨fun w => s_Make w neg 0 (Nm.nil w) (by rw [Num.bitsN_zero]; omega) 0 (by omega) (by omega) (by rw [Num.bitsN_zero]; omega)⟩
 have HB := Aside0.mk (Below.refl w.heap.size w)
 clear ht
 by_cases h0 : t = ⟨#[]⟩
 ·subst h0
  clear h
  go_enter Tryz.func31, Tryz.ntmps31
  go_wp2_with (first | (go_at_call 69; (with_reducible refine (HT.out _).mono ?_); rintro e w' ⟨rfl, rfl⟩) | (go_at_call 71; (with_reducible refine (HM.out _).mono ?_); rintro e w' ⟨rfl, hb⟩; replace HB := bt_ HB hb; clear hb))
  go_ret
  exact ⟨rfl, by repeat (first | exact HB.out | apply pw_below_drewN)⟩
 ·have he := h.resolve_left h0
  have c1 : decide (e < -900) = true := decide_eq_true he
  have c2 : ¬ t.toList = [] := fun h => h0 (by
   rw [Lib.toList_data] at h
   apply ByteArray.ext
   exact Array.toList_inj.1 h)
  have c3 : t.toList.isEmpty = false := by
   cases h : t.toList with
   | nil => exact absurd h c2
   | cons a b => rfl
  clear h he h0
  go_enter Tryz.func31, Tryz.ntmps31
  go_wp2_with (first | (go_at_call 69; (with_reducible refine (HT.out _).mono ?_); rintro e w' ⟨rfl, rfl⟩) | (go_at_call 71; (with_reducible refine (HM.out _).mono ?_); rintro e w' ⟨rfl, hb⟩; replace HB := bt_ HB hb; clear hb))
  go_ret
  exact ⟨rfl, by repeat (first | exact HB.out | apply pw_below_drewN)⟩
theorem words_one : Num.wordsN 1 = [1] := by
 rw [Num.wordsN_pos (by decide), Num.wordsN_zero]
 rfl
/-- far above -/
theorem d_float_inf (w : World) (neg : Bool) (s t : ByteArray) (ht : t = ⟨(Lib.trimLeftB s.data.toList 48).toArray⟩) (e : Int) (h0 : t ≠ ⟨#[]⟩) (h : 400 < e) :
  Calls Tryz.prog 31 #[.bool neg, .string s, .int .i64 e] w fun x w' => x = .returned (.int .u64 ((sg neg 9218868437227405312 : Nat) : Int)) ∧ Below w.heap.size w w' := by
 have HT : Aside0 (∀ w, Calls Tryz.prog 69 #[.string s, .string ⟨#[48]⟩] w fun x w' => x = .returned (.string t) ∧ w' = w) := ⟨fun w => by rw [ht]; exact Tryz.strings_TrimLeft_one s 48 (by decide) w⟩
 have hb1 : Num.bitsN 1 = 1 := by decide
 have hbig : mkN 1 100000 = 9218868437227405312 := mkN_big (by decide) (by unfold expo; rw [hb1]; omega)
 have HM : Aside0 (∀ w v, Nm w v 1 → Calls Tryz.prog 71 #[.bool neg, v, .int .i64 100000] w fun x w' => x = .returned (.int .u64 ((sg neg 9218868437227405312 : Nat) : Int)) ∧ Below w.heap.size w w') := ⟨fun w v hv => by
  rw [← hbig]
  exact s_Make w neg 1 hv (by rw [hb1]; omega) 100000 (by omega) (by omega) (by rw [hb1]; omega)⟩
 have HB := Aside0.mk (Below.refl w.heap.size w)
 have c2 : ¬ t.toList = [] := fun h => h0 (by
  rw [Lib.toList_data] at h
  apply ByteArray.ext
  exact Array.toList_inj.1 h)
 have c3 : t.toList.isEmpty = false := by
  cases h : t.toList with
  | nil => exact absurd h c2
  | cons a b => rfl
 have c4 : decide (e < -900) = false := decide_eq_false (by omega)
 have c5 : decide (400 < e) = true := decide_eq_true h
 clear ht h h0 hb1 hbig
 go_enter Tryz.func31, Tryz.ntmps31
 go_wp2_with (first | (go_at_call 69; (with_reducible refine (HT.out _).mono ?_); rintro e w' ⟨rfl, rfl⟩) | ((with_reducible refine gate_dst (N := 29) rfl ?_); refine Kd.R_lit (Kd.int .u32) _ 35 ?hg (N := 29) ?hd (xs := ([1] : List Int)) (inner := [.int .u32 1]) (ok := fun _ => True) (okp := fun _ => True) ?hr ?hp (fun _ hk => hk) trivial (Below.refl _ _) (Nat.le_refl _) (by simp) ?_; (case hd => rfl); (case hg => rfl); (case hr => first | (go_simp; done) | (go_simp; rfl)); (case hp => exact (Reps.one (show Kd.M (Kd.int .u32) _ _ _ 1 [.int .u32 1] from rfl) (Reps.none _ _))); intro v1 w1 ho hb hg_ hnew_; clear hg_ hnew_; have hv := Aside0.mk (show Nm w1 v1 1 from Nm.of_R (by rw [words_one]; exact ho)); replace HB := bt_ HB hb; clear ho hb) | (go_at_call 71; (refine (HM.out _ _ hv.out).mono ?_); rintro e w' ⟨rfl, hb⟩; replace HB := bt_ HB hb; clear hb))
 go_ret
 exact ⟨rfl, by repeat (first | exact HB.out | apply pw_below_drewN)⟩
theorem ten_lt (k : Nat) : 10 ^ k < 2 ^ (4 * k + 1) := by
 rw [Nat.pow_succ, Nat.pow_mul]
 have := Nat.pow_le_pow_left (show 10 ≤ 2 ^ 4 by decide) k
 have h1 := Nat.two_pow_pos (4 * k)
 rw [Nat.pow_mul] at h1
 omega
theorem dec_lt {l : List UInt8} {k A : Nat} (hd : Num.digs l = true) (hl : l.length ≤ k) (hA : 4 * k + 1 ≤ A) : Num.decL 0 l < 2 ^ A :=
 Nat.lt_of_lt_of_le (Nat.lt_trans (Nat.lt_of_lt_of_le (Num.decL_lt l (Num.digs_mem hd)) (Nat.pow_le_pow_right (by decide) hl)) (ten_lt k)) (Nat.pow_le_pow_right (by decide) hA)
theorem bits_lt {m b : Nat} (h : m < 2 ^ b) : Num.bitsN m ≤ b := by
 rcases Nat.eq_zero_or_pos m with z | z
 ·subst z; rw [Num.bitsN_zero]; omega
 ·rcases Nat.lt_or_ge b (Num.bitsN m) with q | q
  ·exfalso
   have h1 := Num.bitsN_le z
   have h3 : 2 ^ b ≤ 2 ^ (Num.bitsN m - 1) := Nat.pow_le_pow_right (by decide) (by omega)
   omega
  ·exact q
/-- a whole number -/
theorem d_float_pos (w : World) (neg : Bool) (s t : ByteArray) (ht : t = ⟨(Lib.trimLeftB s.data.toList 48).toArray⟩) (e : Int) (h0 : t ≠ ⟨#[]⟩) (hd : Num.digs t.data.toList = true) (hl : t.data.toList.length ≤ 400) (he0 : 0 ≤ e) (he : e ≤ 400) :
  Calls Tryz.prog 31 #[.bool neg, .string s, .int .i64 e] w fun x w' => x = .returned (.int .u64 ((sg neg (mkN (Num.decL 0 t.data.toList * 10 ^ e.toNat) 0) : Nat) : Int)) ∧ Below w.heap.size w w' := by
 have HT : Aside0 (∀ w, Calls Tryz.prog 69 #[.string s, .string ⟨#[48]⟩] w fun x w' => x = .returned (.string t) ∧ w' = w) := ⟨fun w => by rw [ht]; exact Tryz.strings_TrimLeft_one s 48 (by decide) w⟩
 obtain ⟨A, hA⟩ : ∃ A, A = 1601 := ⟨_, rfl⟩
 have hm := dec_lt (A := A) hd hl (by omega)
 have hten := ten_lt e.toNat
 have c2 : ¬ t.toList = [] := fun h => h0 (by
  rw [Lib.toList_data] at h
  apply ByteArray.ext
  exact Array.toList_inj.1 h)
 have hne : t.data.toList ≠ [] := by rw [← Lib.toList_data]; exact c2
 obtain ⟨m, hmm⟩ : ∃ m, Num.decL 0 t.data.toList = m := ⟨_, rfl⟩
 obtain ⟨p, hpp⟩ : ∃ p, 10 ^ e.toNat = p := ⟨_, rfl⟩
 have HTen := Aside0.mk (fun w => d_ten w e (by omega))
 have fm : Fit (Num.decL 0 t.data.toList) := fit_lt hm (by omega)
 have HP := Aside0.mk (fun w => n_Parse (w := w) t hd hne (by omega) fm)
 rw [hmm] at hm fm HP ⊢
 rw [hpp] at hten HTen ⊢
 have hten2 : p < 2 ^ A := Nat.lt_of_lt_of_le hten (Nat.pow_le_pow_right (by decide) (by omega))
 have fp : Fit p := fit_lt hten2 (by omega)
 have hprod : m * p < 2 ^ (A + A) := by
  rw [Nat.pow_add]
  exact Nat.mul_lt_mul'' hm hten2
 have HX := Aside0.mk (fun (w : World) (v u : Value) (h : Nm w v m) (k : Nm w u p) => d_times w h k fm fp (fit_lt hprod (by omega)))
 have hbits := bits_lt hprod
 have HM : Aside0 (∀ w v, Nm w v (m * p) → Calls Tryz.prog 71 #[.bool neg, v, .int .i64 0] w fun x w' => x = .returned (.int .u64 ((sg neg (mkN (m * p) 0) : Nat) : Int)) ∧ Below w.heap.size w w') := ⟨fun w v hv => s_Make w neg (m * p) hv (by omega) 0 (by omega) (by omega) (by omega)⟩
 have HB := Aside0.mk (Below.refl w.heap.size w)
 have c3 : t.toList.isEmpty = false := by
  cases h : t.toList with
  | nil => exact absurd h c2
  | cons a b => rfl
 have c4 : decide (e < -900) = false := decide_eq_false (by omega)
 have c5 : decide (400 < e) = false := decide_eq_false (by omega)
 have c6 : decide (0 ≤ e) = true := decide_eq_true he0
 obtain ⟨res, hres⟩ : ∃ z : Int, ((sg neg (mkN (m * p) 0) : Nat) : Int) = z := ⟨_, rfl⟩
 rw [hres] at HM ⊢
 clear ht h0 hm hten hmm hpp fm hten2 fp hprod hbits hA A hres hd hl hne he0 he
 go_enter Tryz.func31, Tryz.ntmps31
 go_wp2_with (first | (go_at_call 69; (with_reducible refine (HT.out _).mono ?_); rintro e w' ⟨rfl, rfl⟩) | (go_at_call 72; (with_reducible refine (HP.out _).mono ?_); rintro e w' ⟨r1, rfl, hr, hb⟩; have n0_ := Aside0.mk (below_step HB.out hb); have hv1 := Aside0.mk hr; clear HB hb hr; have HB := n0_; clear n0_) | (go_at_call 74; (with_reducible refine (HTen.out _).mono ?_); rintro e w' ⟨r2, rfl, hr, hb⟩; have n0_ := Aside0.mk (below_step HB.out hb); have hv2 := Aside0.mk hr; have n1_ := Aside0.mk (hv1.out.below hb); clear HB hb hr hv1; have HB := n0_; have hv1 := n1_; clear n0_ n1_) | (go_at_call 73; (refine (HX.out _ _ _ hv1.out hv2.out).mono ?_); rintro e w' ⟨r3, rfl, hr, hb⟩; have n0_ := Aside0.mk (below_step HB.out hb); have hv3 := Aside0.mk hr; clear HB hb hr; have HB := n0_; clear n0_) | (go_at_call 71; (refine (HM.out _ _ hv3.out).mono ?_); rintro e w' ⟨rfl, hb⟩; replace HB := bt_ HB hb; clear hb))
 go_ret
 exact ⟨rfl, by repeat (first | exact HB.out | apply pw_below_drewN)⟩
set_option maxRecDepth 100000 in
/-- a quotient -/
theorem d_float_neg (w : World) (neg : Bool) (s t : ByteArray) (ht : t = ⟨(Lib.trimLeftB s.data.toList 48).toArray⟩) (e : Int) (h0 : t ≠ ⟨#[]⟩) (hd : Num.digs t.data.toList = true) (hl : t.data.toList.length ≤ 400) (he0 : e < 0) (he : -900 ≤ e) (k : Nat) (hk : k = Num.bitsN (10 ^ (-e).toNat) + 70) :
  Calls Tryz.prog 31 #[.bool neg, .string s, .int .i64 e] w fun x w' => x = .returned (.int .u64 ((sg neg (mkN (Num.decL 0 t.data.toList * 2 ^ k / 10 ^ (-e).toNat * 2 ^ 1 + (if Num.decL 0 t.data.toList * 2 ^ k % 10 ^ (-e).toNat = 0 then 0 else 1)) (-(k : Int) - 1)) : Nat) : Int)) ∧ Below w.heap.size w w' := by
 have HT : Aside0 (∀ w, Calls Tryz.prog 69 #[.string s, .string ⟨#[48]⟩] w fun x w' => x = .returned (.string t) ∧ w' = w) := ⟨fun w => by rw [ht]; exact Tryz.strings_TrimLeft_one s 48 (by decide) w⟩
 obtain ⟨A, hA⟩ : ∃ A, A = 1601 := ⟨_, rfl⟩
 have hm := dec_lt (A := A) hd hl (by omega)
 have c2 : ¬ t.toList = [] := fun h => h0 (by
  rw [Lib.toList_data] at h
  apply ByteArray.ext
  exact Array.toList_inj.1 h)
 have hne : t.data.toList ≠ [] := by rw [← Lib.toList_data]; exact c2
 obtain ⟨ee, hee⟩ : ∃ z : Int, -e = z := ⟨_, rfl⟩
 rw [hee] at hk ⊢
 have hten := ten_lt ee.toNat
 have hpos : 0 < 10 ^ ee.toNat := Nat.pow_pos (by decide)
 obtain ⟨m, hmm⟩ : ∃ m, Num.decL 0 t.data.toList = m := ⟨_, rfl⟩
 obtain ⟨p, hpp⟩ : ∃ p, 10 ^ ee.toNat = p := ⟨_, rfl⟩
 have HTen := Aside0.mk (fun w => d_ten w ee (by omega))
 have fm : Fit (Num.decL 0 t.data.toList) := fit_lt hm (by omega)
 have HP := Aside0.mk (fun w => n_Parse (w := w) t hd hne (by omega) fm)
 rw [hmm] at hm fm HP ⊢
 rw [hpp] at hten HTen hk hpos ⊢
 obtain ⟨B, hBB⟩ : ∃ B, B = 3601 := ⟨_, rfl⟩
 have hten2 : p < 2 ^ B := Nat.lt_of_lt_of_le hten (Nat.pow_le_pow_right (by decide) (by omega))
 have fp : Fit p := fit_lt hten2 (by omega)
 have hbp := bits_lt hten2
 have hk2 : k ≤ 3671 := by omega
 obtain ⟨C, hC⟩ : ∃ C, C = 5272 := ⟨_, rfl⟩
 have hsh : m * 2 ^ k < 2 ^ C := by
  have h1 : m * 2 ^ k < 2 ^ A * 2 ^ k := Nat.mul_lt_mul_of_pos_right hm (Nat.two_pow_pos k)
  rw [← Nat.pow_add] at h1
  exact Nat.lt_of_lt_of_le h1 (Nat.pow_le_pow_right (by decide) (by omega))
 have fs : Fit (m * 2 ^ k) := fit_lt hsh (by omega)
 have HBits := Aside0.mk (fun (w : World) (v : Value) (h : Nm w v p) => n_Bits h fp)
 have HS1 := Aside0.mk (fun (w : World) (v : Value) (h : Nm w v m) => d_shifted w h fm k (by omega) fs)
 have HD := Aside0.mk (fun (w : World) (v u : Value) (h : Nm w v (m * 2 ^ k)) (g : Nm w u p) => n_Divide h g fs fp (Nat.ne_of_gt hpos))
 have hqs : m * 2 ^ k / p < 2 ^ C := Nat.lt_of_le_of_lt (Nat.div_le_self _ _) hsh
 obtain ⟨q, hqq⟩ : ∃ q, m * 2 ^ k / p = q := ⟨_, rfl⟩
 obtain ⟨rem, hrem⟩ : ∃ q, m * 2 ^ k % p = q := ⟨_, rfl⟩
 rw [hqq] at HD hqs ⊢
 rw [hrem] at HD ⊢
 have hqt : q * 2 ^ 1 + 1 < 2 ^ (C + 1) := by rw [Nat.pow_add]; omega
 have fq2 : Fit (q * 2 ^ 1) := fit_lt (Nat.lt_of_succ_lt hqt) (by omega)
 have HS2 : Aside0 (∀ w v, Nm w v q → Calls Tryz.prog 76 #[v, .int .i64 1] w fun e w' => ∃ r, e = .returned r ∧ Nm w' r (q * 2 ^ 1) ∧ Below w.heap.size w w') := ⟨fun w v h => d_shifted w h (fit_lt hqs (by omega)) 1 (by omega) fq2⟩
 have HA := Aside0.mk (fun (w : World) (v u : Value) (h : Nm w v (q * 2 ^ 1)) (g : Nm w u 1) => n_Add h g fq2 (fit_lt (b := 1) (by decide) (by omega)))
 have HB := Aside0.mk (Below.refl w.heap.size w)
 obtain ⟨b, hbn⟩ : ∃ b : Int, ((Num.bitsN p : Nat) : Int) = b := ⟨_, rfl⟩
 rw [hbn] at HBits
 obtain ⟨kk, hkk⟩ : ∃ z : Int, (k : Int) = z := ⟨_, rfl⟩
 have w1 : IntKind.i64.wrap (-e) = ee := by rw [hee, i64w_id (by omega) (by omega)]
 have w2 : IntKind.i64.wrap (b + 70) = kk := by rw [i64w_id (by omega) (by omega)]; omega
 obtain ⟨nk, hnk⟩ : ∃ z : Int, -kk = z := ⟨_, rfl⟩
 have w3 : IntKind.i64.wrap (-kk) = nk := by rw [hnk, i64w_id (by omega) (by omega)]
 obtain ⟨nk1, hnk1⟩ : ∃ z : Int, nk - 1 = z := ⟨_, rfl⟩
 have w4 : IntKind.i64.wrap (nk - 1) = nk1 := by rw [i64w_id (by omega) (by omega)]; exact hnk1
 rw [hkk] at HS1
 have hb1 := Nat.le_trans (bits_lt hqt) (show C + 1 ≤ 5273 by omega)
 have hb0 := Nat.le_trans (bits_lt (Nat.lt_of_succ_lt hqt)) (show C + 1 ≤ 5273 by omega)
 have HMk := fun (x : Nat) (hx : Num.bitsN x ≤ 5273) (w : World) (v : Value) (hv : Nm w v x) => s_Make w neg x hv (by omega) nk1 (by omega) (by omega) (by omega)
 rw [show -(k : Int) - 1 = nk1 by omega]
 obtain ⟨L, hL⟩ : ∃ z, (Num.wordsN rem).length = z := ⟨_, rfl⟩
 have c3 : t.toList.isEmpty = false := by
  cases h : t.toList with
  | nil => exact absurd h c2
  | cons a b => rfl
 have c4 : decide (e < -900) = false := decide_eq_false (by omega)
 have c5 : decide (400 < e) = false := decide_eq_false (by omega)
 have c6 : decide (0 ≤ e) = false := decide_eq_false (by omega)
 by_cases hr0 : rem = 0
 ·have hL0 : L = 0 := by rw [← hL, hr0, Num.wordsN_zero]; rfl
  subst hL0
  rw [if_pos hr0, Nat.add_zero]
  have HM := Aside0.mk (HMk _ hb0)
  obtain ⟨res, hres⟩ : ∃ z : Int, ((sg neg (mkN (q * 2 ^ 1) nk1) : Nat) : Int) = z := ⟨_, rfl⟩
  rw [hres] at HM ⊢
  have u1 : wrap64 (-e) = ee := (i64_w _).symm.trans w1
  have u2 : wrap64 (b + 70) = kk := (i64_w _).symm.trans w2
  have u3 : wrap64 (-kk) = nk := (i64_w _).symm.trans w3
  have u4 : wrap64 (nk - 1) = nk1 := (i64_w _).symm.trans w4
  clear hee HMk ht h0 hm hten hpos hmm hpp fm hten2 fp hbp hk2 hsh fs hqs hqq hrem hqt fq2 hbn hkk hnk hnk1 hb1 hb0 hr0 hres hd hl hne he0 he hk hA hBB hC A B C
  go_enter Tryz.func31, Tryz.ntmps31
  go_wp2_with (first | (go_at_call 69; (with_reducible refine (HT.out _).mono ?_); rintro e w' ⟨rfl, rfl⟩) | (go_at_call 72; (with_reducible refine (HP.out _).mono ?_); rintro e w' ⟨r1, rfl, hr, hb⟩; have n0_ := Aside0.mk (below_step HB.out hb); have hv1 := Aside0.mk hr; clear HB hb hr; have HB := n0_; clear n0_) | (go_at_call 74; (with_reducible refine (HTen.out _).mono ?_); rintro e w' ⟨r2, rfl, hr, hb⟩; have n0_ := Aside0.mk (below_step HB.out hb); have hv2 := Aside0.mk hr; have n1_ := Aside0.mk (hv1.out.below hb); clear HB hb hr hv1; have HB := n0_; have hv1 := n1_; clear n0_ n1_) | (go_at_call 38; (with_reducible refine (HBits.out _ _ hv2.out).mono ?_); rintro e w' ⟨rfl, hb⟩; replace HB := bt_ HB hb; replace hv1 := Aside0.mk (hv1.out.below hb); replace hv2 := Aside0.mk (hv2.out.below hb); clear hb) | (go_at_call 76; (with_reducible refine (HS1.out _ _ hv1.out).mono ?_); rintro e w' ⟨r3, rfl, hr, hb⟩; have n0_ := Aside0.mk (below_step HB.out hb); have hv3 := Aside0.mk hr; have n1_ := Aside0.mk (hv2.out.below hb); clear HB hb hr hv2; have HB := n0_; have hv2 := n1_; clear n0_ n1_) | (go_at_call 75; (with_reducible refine (HD.out _ _ _ hv3.out hv2.out).mono ?_); rintro e w' ⟨rq, rr, rfl, hr, hr2, hb⟩; have n0_ := Aside0.mk (below_step HB.out hb); have hq := Aside0.mk hr; obtain ⟨Ar, cr, har, -, -, -⟩ := hr2.open; rw [hL] at har; subst har; clear HB hb hr hr2; have HB := n0_; clear n0_) | (go_at_call 76; (with_reducible refine (HS2.out _ _ hq.out).mono ?_); rintro e w' ⟨r4, rfl, hr, hb⟩; have n0_ := Aside0.mk (below_step HB.out hb); have hq2 := Aside0.mk hr; clear HB hb hr; have HB := n0_; clear n0_) | (go_at_call 71; (with_reducible refine (HM.out _ _ hq2.out).mono ?_); rintro e w' ⟨rfl, hb⟩; replace HB := bt_ HB hb; clear hb))
  go_ret
  exact ⟨rfl, by repeat (first | exact HB.out | apply pw_below_drewN)⟩
 ·have hL0 : (0 : Int) < (L : Int) := by
   rw [← hL]
   rcases Nat.eq_zero_or_pos (Num.wordsN rem).length with z | z
   ·exfalso
    apply hr0
    rw [← Num.wordsN_val rem, List.eq_nil_of_length_eq_zero z]
    rfl
   ·omega
  have c7 := decide_eq_true hL0
  rw [if_neg hr0]
  have HM := Aside0.mk (HMk _ hb1)
  obtain ⟨res, hres⟩ : ∃ z : Int, ((sg neg (mkN (q * 2 ^ 1 + 1) nk1) : Nat) : Int) = z := ⟨_, rfl⟩
  rw [hres] at HM ⊢
  have u1 : wrap64 (-e) = ee := (i64_w _).symm.trans w1
  have u2 : wrap64 (b + 70) = kk := (i64_w _).symm.trans w2
  have u3 : wrap64 (-kk) = nk := (i64_w _).symm.trans w3
  have u4 : wrap64 (nk - 1) = nk1 := (i64_w _).symm.trans w4
  clear hee HMk ht h0 hm hten hpos hmm hpp fm hten2 fp hbp hk2 hsh fs hqs hqq hrem hqt fq2 hbn hkk hnk hnk1 hb1 hb0 hr0 hres hd hl hne he0 he hk hA hBB hC A B C
  go_enter Tryz.func31, Tryz.ntmps31
  go_wp2_with (first | (go_at_call 69; (with_reducible refine (HT.out _).mono ?_); rintro e w' ⟨rfl, rfl⟩) | (go_at_call 72; (with_reducible refine (HP.out _).mono ?_); rintro e w' ⟨r1, rfl, hr, hb⟩; have n0_ := Aside0.mk (below_step HB.out hb); have hv1 := Aside0.mk hr; clear HB hb hr; have HB := n0_; clear n0_) | (go_at_call 74; (with_reducible refine (HTen.out _).mono ?_); rintro e w' ⟨r2, rfl, hr, hb⟩; have n0_ := Aside0.mk (below_step HB.out hb); have hv2 := Aside0.mk hr; have n1_ := Aside0.mk (hv1.out.below hb); clear HB hb hr hv1; have HB := n0_; have hv1 := n1_; clear n0_ n1_) | (go_at_call 38; (with_reducible refine (HBits.out _ _ hv2.out).mono ?_); rintro e w' ⟨rfl, hb⟩; replace HB := bt_ HB hb; replace hv1 := Aside0.mk (hv1.out.below hb); replace hv2 := Aside0.mk (hv2.out.below hb); clear hb) | (go_at_call 76; (with_reducible refine (HS1.out _ _ hv1.out).mono ?_); rintro e w' ⟨r3, rfl, hr, hb⟩; have n0_ := Aside0.mk (below_step HB.out hb); have hv3 := Aside0.mk hr; have n1_ := Aside0.mk (hv2.out.below hb); clear HB hb hr hv2; have HB := n0_; have hv2 := n1_; clear n0_ n1_) | (go_at_call 75; (with_reducible refine (HD.out _ _ _ hv3.out hv2.out).mono ?_); rintro e w' ⟨rq, rr, rfl, hr, hr2, hb⟩; have n0_ := Aside0.mk (below_step HB.out hb); have hq := Aside0.mk hr; obtain ⟨Ar, cr, har, -, -, -⟩ := hr2.open; rw [hL] at har; subst har; clear HB hb hr hr2; have HB := n0_; clear n0_) | (go_at_call 76; (with_reducible refine (HS2.out _ _ hq.out).mono ?_); rintro e w' ⟨r4, rfl, hr, hb⟩; have n0_ := Aside0.mk (below_step HB.out hb); have hq2 := Aside0.mk hr; clear HB hb hr; have HB := n0_; clear n0_) | ((with_reducible refine gate_dst (N := 65) rfl ?_); refine Kd.R_lit (Kd.int .u32) _ 35 ?hg (N := 65) ?hd (xs := ([1] : List Int)) (inner := [.int .u32 1]) (ok := fun _ => True) (okp := fun _ => True) ?hr ?hp (fun _ hk => hk) trivial (Below.refl _ _) (Nat.le_refl _) (by simp) ?_; (case hd => rfl); (case hg => rfl); (case hr => first | (go_simp; done) | (go_simp; rfl)); (case hp => exact (Reps.one (show Kd.M (Kd.int .u32) _ _ _ 1 [.int .u32 1] from rfl) (Reps.none _ _))); intro v1 w1 ho hb hg_ hnew_; clear hg_ hnew_; have hv := Aside0.mk (show Nm w1 v1 1 from Nm.of_R (by rw [words_one]; exact ho)); replace HB := bt_ HB hb; replace hq2 := Aside0.mk (hq2.out.below hb); clear ho hb) | (go_at_call 77; (with_reducible refine (HA.out _ _ _ hq2.out hv.out).mono ?_); rintro e w' ⟨r5, rfl, hr, hb⟩; have n0_ := Aside0.mk (below_step HB.out hb); have hQ := Aside0.mk hr; clear HB hb hr; have HB := n0_; clear n0_) | (go_at_call 71; (with_reducible refine (HM.out _ _ hQ.out).mono ?_); rintro e w' ⟨rfl, hb⟩; replace HB := bt_ HB hb; clear hb))
  go_ret
  exact ⟨rfl, by repeat (first | exact HB.out | apply pw_below_drewN)⟩
end Go.Proofs.YtdoeigngpemcgaaGreatDoor.Dec
namespace Go.Flt
/-- m times 2^e against 10^k -/
def lhs (m : Nat) (e k : Int) : Nat := m * 10 ^ (-k).toNat * 2 ^ e.toNat
def rhs (e k : Int) : Nat := 10 ^ k.toNat * 2 ^ (-e).toNat
def rch (m : Nat) (e k : Int) : Bool := decide (rhs e k ≤ lhs m e k)
end Go.Flt
namespace Go.Proofs.YtdoeigngpemcgaaGreatDoor.Dec
open Go.RowKit Go.Flt Go.Proofs.YtdoeigngpemcgaaGreatDoor.Pure Go.Proofs.YtdoeigngpemcgaaGreatDoorW.PrintWords Go.Proofs.YtdoeigngpemcgaaGreatDoorW.PrintLast Go.Proofs.YtdoeigngpemcgaaGreatDoorW.PrintMore
attribute [local go_sem] max2_int min2_int max_two min_two max_three min_three max_four min_four
theorem mul_lt_pow {a b i j : Nat} (h : a < 2 ^ i) (k : b < 2 ^ j) : a * b < 2 ^ (i + j) := by
 rw [Nat.pow_add]
 exact Nat.mul_lt_mul'' h k
theorem two_lt (k : Nat) : 2 ^ k < 2 ^ (k + 1) := Nat.pow_lt_pow_right (by decide) (by omega)
set_option maxRecDepth 100000 in
theorem d_reaches (w : World) {v : Value} {m : Nat} (hv : Nm w v m) (hm : m < 2 ^ 53) (e k : Int) (he : -1074 ≤ e) (he2 : e ≤ 971) (hk : -400 ≤ k) (hk2 : k ≤ 400) :
  Calls Tryz.prog 39 #[v, .int .i64 e, .int .i64 k] w fun x w' => x = .returned (.bool (rch m e k)) ∧ Below w.heap.size w w' := by
 obtain ⟨nk, hnk⟩ : ∃ z, -k = z := ⟨_, rfl⟩
 obtain ⟨ne, hne⟩ : ∃ z, -e = z := ⟨_, rfl⟩
 have T1 := Aside0.mk (fun w => d_ten w nk (by omega))
 have T2 := Aside0.mk (fun w => d_ten w k (by omega))
 have b1 := ten_lt nk.toNat
 have b2 := ten_lt k.toNat
 have c1 := two_lt e.toNat
 have c2 := two_lt ne.toNat
 have fm : Fit m := fit_lt hm (by omega)
 have d1 := mul_lt_pow hm b1
 have d2 := mul_lt_pow d1 c1
 have d3 := mul_lt_pow b2 c2
 have hL : m * 10 ^ nk.toNat * 2 ^ e.toNat = lhs m e k := by unfold lhs; rw [hnk]
 have hR : 10 ^ k.toNat * 2 ^ ne.toNat = rhs e k := by unfold rhs; rw [hne]
 have X := Aside0.mk (fun (w : World) (v u : Value) (h : Nm w v m) (g : Nm w u (10 ^ nk.toNat)) => d_times w h g fm (fit_lt b1 (by omega)) (fit_lt d1 (by omega)))
 have S1 := Aside0.mk (fun (w : World) (v : Value) (h : Nm w v (m * 10 ^ nk.toNat)) => d_shifted w h (fit_lt d1 (by omega)) e.toNat (by omega) (fit_lt d2 (by omega)))
 have S2 := Aside0.mk (fun (w : World) (v : Value) (h : Nm w v (10 ^ k.toNat)) => d_shifted w h (fit_lt b2 (by omega)) ne.toNat (by omega) (fit_lt d3 (by omega)))
 have CC := Aside0.mk (fun (w : World) (v u : Value) (h : Nm w v (m * 10 ^ nk.toNat * 2 ^ e.toNat)) (g : Nm w u (10 ^ k.toNat * 2 ^ ne.toNat)) => n_Compare h g (fit_lt d2 (by omega)) (fit_lt d3 (by omega)))
 obtain ⟨me, hme⟩ : ∃ z : Int, max e 0 = z := ⟨_, rfl⟩
 obtain ⟨mn, hmn⟩ : ∃ z : Int, max ne 0 = z := ⟨_, rfl⟩
 have hme' : ((e.toNat : Nat) : Int) = me := by omega
 have hmn' : ((ne.toNat : Nat) : Int) = mn := by omega
 have hme2 : (if e < 0 then 0 else e) = me := by rw [← hme]; split <;> omega
 have hmn2 : (if ne < 0 then 0 else ne) = mn := by rw [← hmn]; split <;> omega
 rw [hme'] at S1
 rw [hmn'] at S2
 obtain ⟨p1, hp1⟩ : ∃ z, 10 ^ nk.toNat = z := ⟨_, rfl⟩
 obtain ⟨p2, hp2⟩ : ∃ z, 10 ^ k.toNat = z := ⟨_, rfl⟩
 rw [hL, hR] at CC
 rw [hL] at S1
 rw [hR] at S2
 rw [hp1] at T1 X S1
 rw [hp2] at T2 S2
 obtain ⟨L, hLL⟩ : ∃ z, lhs m e k = z := ⟨_, rfl⟩
 obtain ⟨R, hRR⟩ : ∃ z, rhs e k = z := ⟨_, rfl⟩
 have hres : decide (0 ≤ Num.cmpN L R) = rch m e k := by
  unfold rch Num.cmpN
  rw [hLL, hRR, decide_eq_decide]
  split
  ·omega
  ·split <;> omega
 rw [hLL, hRR] at CC
 rw [hLL] at S1
 rw [hRR] at S2
 obtain ⟨res, hrr⟩ : ∃ z, rch m e k = z := ⟨_, rfl⟩
 rw [hrr] at hres ⊢
 obtain ⟨cc, hcc⟩ : ∃ z, Num.cmpN L R = z := ⟨_, rfl⟩
 rw [hcc] at hres CC
 obtain ⟨q1, hq1⟩ : ∃ z, m * p1 = z := ⟨_, rfl⟩
 rw [hq1] at X S1
 have w1 : wrap64 (-k) = nk := by rw [hnk, i64_id (by omega) (by omega)]
 have w2 : IntKind.i64.wrap (-k) = nk := (i64_w _).trans w1
 have w3 : wrap64 (-e) = ne := by rw [hne, i64_id (by omega) (by omega)]
 have w4 : IntKind.i64.wrap (-e) = ne := (i64_w _).trans w3
 have HB := Aside0.mk (Below.refl w.heap.size w)
 have hv0 := Aside0.mk hv
 clear hv hm he he2 hk hk2 hnk hne b1 b2 c1 c2 fm d1 d2 d3 hL hR hme' hmn' hp1 hp2 hLL hRR hrr hcc hq1
 go_enter Tryz.func39, Tryz.ntmps39
 go_wp2_with (first
  | (go_at_call 74; (with_reducible refine (T1.out _).mono ?_); rintro e w' ⟨r1, rfl, hr, hb⟩; have n0_ := Aside0.mk (below_step HB.out hb); have hv1 := Aside0.mk hr; have n1_ := Aside0.mk (hv0.out.below hb); clear HB hb hr hv0; have HB := n0_; have hv0 := n1_; clear n0_ n1_)
  | (go_at_call 73; (with_reducible refine (X.out _ _ _ hv0.out hv1.out).mono ?_); rintro e w' ⟨r2, rfl, hr, hb⟩; have n0_ := Aside0.mk (below_step HB.out hb); have hv2 := Aside0.mk hr; clear HB hb hr; have HB := n0_; clear n0_)
  | (go_at_call 76; (with_reducible refine (S1.out _ _ hv2.out).mono ?_); rintro e w' ⟨r3, rfl, hr, hb⟩; have n0_ := Aside0.mk (below_step HB.out hb); have hv3 := Aside0.mk hr; clear HB hb hr; have HB := n0_; clear n0_)
  | (go_at_call 74; (with_reducible refine (T2.out _).mono ?_); rintro e w' ⟨r4, rfl, hr, hb⟩; have n0_ := Aside0.mk (below_step HB.out hb); have hv4 := Aside0.mk hr; have n1_ := Aside0.mk (hv3.out.below hb); clear HB hb hr hv3; have HB := n0_; have hv3 := n1_; clear n0_ n1_)
  | (go_at_call 76; (with_reducible refine (S2.out _ _ hv4.out).mono ?_); rintro e w' ⟨r5, rfl, hr, hb⟩; have n0_ := Aside0.mk (below_step HB.out hb); have hv5 := Aside0.mk hr; have n1_ := Aside0.mk (hv3.out.below hb); clear HB hb hr hv3; have HB := n0_; have hv3 := n1_; clear n0_ n1_)
  | (go_at_call 94; (with_reducible refine (CC.out _ _ _ hv3.out hv5.out).mono ?_); rintro e w' ⟨rfl, hb⟩; replace HB := bt_ HB hb; clear hb))
 go_ret
 exact ⟨by first | rfl | rw [hres], HB.out⟩
end Go.Proofs.YtdoeigngpemcgaaGreatDoor.Dec
namespace Go.Flt
/-- the integer nearest to m times 2^e by 10^k, of two the even one -/
def nearN (m : Nat) (e k : Int) : Nat :=
 if rhs e k < 2 * (lhs m e k % rhs e k) ∨ (2 * (lhs m e k % rhs e k) = rhs e k ∧ lhs m e k / rhs e k % 2 = 1) then lhs m e k / rhs e k + 1 else lhs m e k / rhs e k
end Go.Flt
namespace Go.Proofs.YtdoeigngpemcgaaGreatDoor.Dec
open Go.RowKit Go.Flt Go.Proofs.YtdoeigngpemcgaaGreatDoor.Pure Go.Proofs.YtdoeigngpemcgaaGreatDoorW.PrintWords Go.Proofs.YtdoeigngpemcgaaGreatDoorW.PrintLast Go.Proofs.YtdoeigngpemcgaaGreatDoorW.PrintMore
attribute [local go_sem] max2_int min2_int max_two min_two max_three min_three max_four min_four
theorem head_word {w : World} {A : Option Addr} {c n L : Nat} (h : Nm w (.slice A L c) n) (hL : (Num.wordsN n).length = L) (h0 : 0 < L) : ∃ ad, A = some ad ∧ w.cell? ad = some (.int .u32 (((n % 4294967296 : Nat) : Int))) := by
 obtain ⟨_, _, hC⟩ := Kd.V_reads' h
 obtain ⟨ad, rfl, _⟩ := Kd.at_int hC 0 (by omega) (by omega)
 have hz := Kd.foot_int hC 0 (by omega) (by omega)
 have hx : rd (Num.wordsN n) 0 = ((n % 4294967296 : Nat) : Int) := by
  rcases Nat.eq_zero_or_pos n with z | z
  ·subst z
   rw [Num.wordsN_zero] at hL
   exact absurd hL (by simp; omega)
  ·rw [Num.wordsN_pos (by omega)]
   rfl
 rw [hx] at hz
 rw [show ad.add (0 : Int).toNat = ad from rfl] at hz
 exact ⟨ad, rfl, hz⟩
theorem par_word (n : Nat) : bits .and .u32 (((n % 4294967296 : Nat) : Int)) 1 = ((n % 2 : Nat) : Int) := by
 rw [show (1 : Int) = ((1 : Nat) : Int) from rfl, u32_and_nat _ _ (Nat.mod_lt _ (by decide)) (by decide), Nat.and_one_is_mod]
 omega
set_option maxRecDepth 100000 in
theorem d_near (w : World) {v : Value} {m : Nat} (hv : Nm w v m) (hm : m < 2 ^ 53) (e n x : Int) (he : -1074 ≤ e) (he2 : e ≤ 971) (hk : -450 ≤ x - n) (hk2 : x - n ≤ 450) (hx1 : -1000 ≤ x) (hx2 : x ≤ 1000) :
  Calls Tryz.prog 40 #[v, .int .i64 e, .int .i64 n, .int .i64 x] w fun y w' => y = .returned (.string ⟨(Num.textN (nearN m e (x - n))).toArray⟩) ∧ Below w.heap.size w w' := by
 obtain ⟨k, hkk⟩ : ∃ z, x - n = z := ⟨_, rfl⟩
 have hnx : n - x = -k := by omega
 obtain ⟨nk, hnk⟩ : ∃ z, -k = z := ⟨_, rfl⟩
 rw [hnk] at hnx
 obtain ⟨ne, hne⟩ : ∃ z, -e = z := ⟨_, rfl⟩
 rw [hkk] at hk hk2 ⊢
 have T1 := Aside0.mk (fun w => d_ten w nk (by omega))
 have T2 := Aside0.mk (fun w => d_ten w k (by omega))
 have b1 := ten_lt nk.toNat
 have b2 := ten_lt k.toNat
 have c1 := two_lt e.toNat
 have c2 := two_lt ne.toNat
 have fm : Fit m := fit_lt hm (by omega)
 have d1 := mul_lt_pow hm b1
 have d2 := mul_lt_pow d1 c1
 have d3 := mul_lt_pow b2 c2
 have hL : m * 10 ^ nk.toNat * 2 ^ e.toNat = lhs m e k := by unfold lhs; rw [hnk]
 have hR : 10 ^ k.toNat * 2 ^ ne.toNat = rhs e k := by unfold rhs; rw [hne]
 have X := Aside0.mk (fun (w : World) (v u : Value) (h : Nm w v m) (g : Nm w u (10 ^ nk.toNat)) => d_times w h g fm (fit_lt b1 (by omega)) (fit_lt d1 (by omega)))
 have S1 := Aside0.mk (fun (w : World) (v : Value) (h : Nm w v (m * 10 ^ nk.toNat)) => d_shifted w h (fit_lt d1 (by omega)) e.toNat (by omega) (fit_lt d2 (by omega)))
 have S2 := Aside0.mk (fun (w : World) (v : Value) (h : Nm w v (10 ^ k.toNat)) => d_shifted w h (fit_lt b2 (by omega)) ne.toNat (by omega) (fit_lt d3 (by omega)))
 obtain ⟨me, hme⟩ : ∃ z : Int, max e 0 = z := ⟨_, rfl⟩
 obtain ⟨mn, hmn⟩ : ∃ z : Int, max ne 0 = z := ⟨_, rfl⟩
 have hme' : ((e.toNat : Nat) : Int) = me := by omega
 have hmn' : ((ne.toNat : Nat) : Int) = mn := by omega
 have hme2 : (if e < 0 then 0 else e) = me := by rw [← hme]; split <;> omega
 have hmn2 : (if ne < 0 then 0 else ne) = mn := by rw [← hmn]; split <;> omega
 rw [hme'] at S1
 rw [hmn'] at S2
 rw [hL] at d2 S1
 rw [hR] at d3 S2
 have hpos : 0 < rhs e k := Nat.mul_pos (Nat.pow_pos (by decide)) (Nat.two_pow_pos _)
 obtain ⟨p1, hp1⟩ : ∃ z, 10 ^ nk.toNat = z := ⟨_, rfl⟩
 obtain ⟨p2, hp2⟩ : ∃ z, 10 ^ k.toNat = z := ⟨_, rfl⟩
 rw [hp1] at T1 X S1
 rw [hp2] at T2 S2
 obtain ⟨L, hLL⟩ : ∃ z, lhs m e k = z := ⟨_, rfl⟩
 obtain ⟨R, hRR⟩ : ∃ z, rhs e k = z := ⟨_, rfl⟩
 have hN : nearN m e k = if R < 2 * (L % R) ∨ (2 * (L % R) = R ∧ L / R % 2 = 1) then L / R + 1 else L / R := by unfold nearN; rw [hLL, hRR]
 rw [hLL] at d2 S1
 rw [hRR] at d3 S2 hpos
 have D := Aside0.mk (fun (w : World) (v u : Value) (h : Nm w v L) (g : Nm w u R) => n_Divide h g (fit_lt d2 (by omega)) (fit_lt d3 (by omega)) (Nat.ne_of_gt hpos))
 obtain ⟨Q, hQ⟩ : ∃ z, L / R = z := ⟨_, rfl⟩
 obtain ⟨r, hr⟩ : ∃ z, L % R = z := ⟨_, rfl⟩
 have hrl : r < R := by rw [← hr]; exact Nat.mod_lt _ hpos
 have hql : Q ≤ L := by rw [← hQ]; exact Nat.div_le_self _ _
 rw [hQ, hr] at D hN
 have fq : Fit Q := fit_le (fit_lt d2 (by omega)) hql
 have fr : Fit r := fit_le (fit_lt d3 (by omega)) (by omega)
 have r2 : r * 2 ^ 1 < 2 ^ (4 * k.toNat + 1 + (ne.toNat + 1) + 1) := by rw [Nat.pow_succ _ (_ + _)]; omega
 have q1 : Q + 1 < 2 ^ (53 + (4 * nk.toNat + 1) + (e.toNat + 1) + 1) := by
  have := Nat.two_pow_pos (53 + (4 * nk.toNat + 1) + (e.toNat + 1))
  rw [Nat.pow_succ]; omega
 have fr2 : Fit (r * 2 ^ 1) := fit_lt r2 (by omega)
 have fR : Fit R := fit_lt d3 (by omega)
 have fq1 : Fit (Q + 1) := fit_lt q1 (by omega)
 have S3 : Aside0 (∀ w v, Nm w v r → Calls Tryz.prog 76 #[v, .int .i64 1] w fun e w' => ∃ z, e = .returned z ∧ Nm w' z (r * 2 ^ 1) ∧ Below w.heap.size w w') := ⟨fun w v h => d_shifted w h fr 1 (by omega) fr2⟩
 have CC := Aside0.mk (fun (w : World) (v u : Value) (h : Nm w v (r * 2 ^ 1)) (g : Nm w u R) => n_Compare h g fr2 fR)
 have AA := Aside0.mk (fun (w : World) (v u : Value) (h : Nm w v Q) (g : Nm w u 1) => n_Add h g fq (fit_lt (b := 1) (by decide) (by omega)))
 obtain ⟨cc, hcc⟩ : ∃ z, Num.cmpN (r * 2 ^ 1) R = z := ⟨_, rfl⟩
 have hcc3 : (R < 2 * r ∧ cc = 1) ∨ (2 * r = R ∧ cc = 0) ∨ (2 * r < R ∧ cc = -1) := by
  rw [← hcc]
  unfold Num.cmpN
  rw [Nat.pow_one]
  split
  ·omega
  ·split <;> omega
 rw [hcc] at CC
 obtain ⟨m1, hm1⟩ : ∃ z, m * p1 = z := ⟨_, rfl⟩
 rw [hm1] at X S1
 have w1 : wrap64 (n - x) = nk := by rw [hnx, i64_id (by omega) (by omega)]
 have w2 : IntKind.i64.wrap (n - x) = nk := (i64_w _).trans w1
 have w5 : wrap64 (x - n) = k := by rw [hkk, i64_id (by omega) (by omega)]
 have w6 : IntKind.i64.wrap (x - n) = k := (i64_w _).trans w5
 have w3 : wrap64 (-e) = ne := by rw [hne, i64_id (by omega) (by omega)]
 have w4 : IntKind.i64.wrap (-e) = ne := (i64_w _).trans w3
 have HB := Aside0.mk (Below.refl w.heap.size w)
 have hv0 := Aside0.mk hv
 obtain ⟨LQ, hLQ⟩ : ∃ z, (Num.wordsN Q).length = z := ⟨_, rfl⟩
 have HQL : Aside0 ((Num.wordsN Q).length = LQ) := ⟨hLQ⟩
 have TX0 := Aside0.mk (fun (w : World) (v : Value) (h : Nm w v Q) => n_Text h fq)
 have TX1 := Aside0.mk (fun (w : World) (v : Value) (h : Nm w v (Q + 1)) => n_Text h fq1)
 have hup : (R < 2 * r ∨ (2 * r = R ∧ Q % 2 = 1)) → nearN m e k = Q + 1 := fun h => by rw [hN, if_pos h]
 have hno : ¬ (R < 2 * r ∨ (2 * r = R ∧ Q % 2 = 1)) → nearN m e k = Q := fun h => by rw [hN, if_neg h]
 clear hv hm he he2 hk hk2 hnk hne b1 b2 c1 c2 fm d1 d2 d3 hL hR hme' hmn' hp1 hp2 hLL hRR hcc hm1 hN hQ hr hql fq fr r2 q1 fr2 fR fq1 hpos hrl hkk hnx hx1 hx2
 go_enter Tryz.func40, Tryz.ntmps40
 go_upto_region 4 with (first | (go_at_call 74; (with_reducible refine (T1.out _).mono ?_); rintro e w' ⟨r1, rfl, hr, hb⟩; have n0_ := Aside0.mk (below_step HB.out hb); have hv1 := Aside0.mk hr; have k0_ := Aside0.mk (hv0.out.below hb); clear HB hb hr hv0; have HB := n0_; have hv0 := k0_; clear n0_ k0_) | (go_at_call 73; (with_reducible refine (X.out _ _ _ hv0.out hv1.out).mono ?_); rintro e w' ⟨r2, rfl, hr, hb⟩; have n0_ := Aside0.mk (below_step HB.out hb); have hv2 := Aside0.mk hr; clear HB hb hr ; have HB := n0_; clear n0_) | (go_at_call 76; (with_reducible refine (S1.out _ _ hv2.out).mono ?_); rintro e w' ⟨r3, rfl, hr, hb⟩; have n0_ := Aside0.mk (below_step HB.out hb); have hv3 := Aside0.mk hr; clear HB hb hr ; have HB := n0_; clear n0_) | (go_at_call 74; (with_reducible refine (T2.out _).mono ?_); rintro e w' ⟨r4, rfl, hr, hb⟩; have n0_ := Aside0.mk (below_step HB.out hb); have hv4 := Aside0.mk hr; have k0_ := Aside0.mk (hv3.out.below hb); clear HB hb hr hv3; have HB := n0_; have hv3 := k0_; clear n0_ k0_) | (go_at_call 76; (with_reducible refine (S2.out _ _ hv4.out).mono ?_); rintro e w' ⟨r5, rfl, hr, hb⟩; have n0_ := Aside0.mk (below_step HB.out hb); have hv5 := Aside0.mk hr; have k0_ := Aside0.mk (hv3.out.below hb); clear HB hb hr hv3; have HB := n0_; have hv3 := k0_; clear n0_ k0_) | (go_at_call 75; (with_reducible refine (D.out _ _ _ hv3.out hv5.out).mono ?_); rintro e w' ⟨rq, rr, rfl, hr, hr2, hb⟩; have n0_ := Aside0.mk (below_step HB.out hb); have hrr := Aside0.mk hr2; obtain ⟨Aq, cq, haq, -, -, -⟩ := hr.open; rw [HQL.out] at haq; subst haq; have hq := Aside0.mk hr; clear hr2; have k0_ := Aside0.mk (hv5.out.below hb); clear HB hb hr hv5; have HB := n0_; have hv5 := k0_; clear n0_ k0_))
 by_cases hQ0 : Q = 0
 ·have hq2 : Q % 2 = 0 := by rw [hQ0]
  have : LQ = 0 := by rw [← hLQ, hQ0, Num.wordsN_zero]; rfl
  subst this
  clear hQ0 hLQ
  go_upto_region 6 with (first | (go_at_call 76; (with_reducible refine (S3.out _ _ hrr.out).mono ?_); rintro e w' ⟨r6, rfl, hr, hb⟩; have n0_ := Aside0.mk (below_step HB.out hb); have hv6 := Aside0.mk hr; have k0_ := Aside0.mk (hv5.out.below hb); have k1_ := Aside0.mk (hq.out.below hb); clear HB hb hr hv5 hq; have HB := n0_; have hv5 := k0_; have hq := k1_; clear n0_ k0_ k1_) | (go_at_call 94; (with_reducible refine (CC.out _ _ _ hv6.out hv5.out).mono ?_); rintro e w' ⟨rfl, hb⟩; have hr := 0; have n0_ := Aside0.mk (below_step HB.out hb); have k0_ := Aside0.mk (hq.out.below hb); clear HB hb hr hq; have HB := n0_; have hq := k0_; clear n0_ k0_))
  rcases hcc3 with ⟨hc1, hc2⟩ | ⟨hc1, hc2⟩ | ⟨hc1, hc2⟩
  ·have hb := Aside0.mk (hup (by omega))
   subst hc2
   clear hup hno hc1 hq2
   go_wp2_with (first | ((with_reducible refine gate_dst (N := 63) rfl ?_); refine Kd.R_lit (Kd.int .u32) _ 35 ?hg (N := 63) ?hd (xs := ([1] : List Int)) (inner := [.int .u32 1]) (ok := fun _ => True) (okp := fun _ => True) ?hr ?hp (fun _ hk => hk) trivial (Below.refl _ _) (Nat.le_refl _) (by simp) ?_; (case hd => rfl); (case hg => rfl); (case hr => first | (go_simp; done) | (go_simp; rfl)); (case hp => exact (Reps.one (show Kd.M (Kd.int .u32) _ _ _ 1 [.int .u32 1] from rfl) (Reps.none _ _))); intro v1 w1 ho hb hg_ hnew_; clear hg_ hnew_; have h1 := Aside0.mk (show Nm w1 v1 1 from Nm.of_R (by rw [words_one]; exact ho)); have n0_ := Aside0.mk (below_step HB.out hb); clear ho; have hr := 0; have k0_ := Aside0.mk (hq.out.below hb); clear HB hb hr hq; have HB := n0_; have hq := k0_; clear n0_ k0_) | (go_at_call 77; (with_reducible refine (AA.out _ _ _ hq.out h1.out).mono ?_); rintro e w' ⟨r7, rfl, hr, hb⟩; have n0_ := Aside0.mk (below_step HB.out hb); have hq1 := Aside0.mk hr; clear HB hb hr ; have HB := n0_; clear n0_) | (go_at_call 95; (with_reducible refine (TX1.out _ _ hq1.out).mono ?_); rintro e w' ⟨rfl, hb⟩; have hr := 0; replace HB := bt_ HB hb; clear hb hr))
   go_ret
   exact ⟨by rw [hb.out]; rfl, HB.out⟩
  ·have hb := Aside0.mk (hno (by omega))
   subst hc2
   clear hup hno hc1 hq2
   go_wp2_with (first | (go_at_call 95; (with_reducible refine (TX0.out _ _ hq.out).mono ?_); rintro e w' ⟨rfl, hb⟩; have hr := 0; replace HB := bt_ HB hb; clear hb hr))
   go_ret
   exact ⟨by rw [hb.out]; rfl, HB.out⟩
  ·have hb := Aside0.mk (hno (by omega))
   subst hc2
   clear hup hno hc1 hq2
   go_wp2_with (first | (go_at_call 95; (with_reducible refine (TX0.out _ _ hq.out).mono ?_); rintro e w' ⟨rfl, hb⟩; have hr := 0; replace HB := bt_ HB hb; clear hb hr))
   go_ret
   exact ⟨by rw [hb.out]; rfl, HB.out⟩
 have hlen : 0 < LQ := by
  rw [← hLQ]
  rcases Nat.eq_zero_or_pos (Num.wordsN Q).length with z | z
  ·exfalso
   apply hQ0
   rw [← Num.wordsN_val Q, List.eq_nil_of_length_eq_zero z]
   rfl
  ·exact z
 have g1 := decide_eq_true (show (0 : Int) < (LQ : Int) by omega)
 have g2 : (0 : Int) < (LQ : Int) := by omega
 obtain ⟨ad, had, hz⟩ := head_word hq.out HQL.out hlen
 subst had
 obtain ⟨y, hy⟩ : ∃ z : Int, ((Q % 4294967296 : Nat) : Int) = z := ⟨_, rfl⟩
 have hpar := par_word Q
 rw [hy] at hpar hz
 clear hlen hLQ hQ0 hy
 by_cases hq2 : Q % 2 = 1
 ·rw [hq2] at hpar
  have hpar2 : bits .and .u32 y 1 = 1 := hpar
  clear hpar
  go_upto_region 6 with (first | (go_at_call 76; (with_reducible refine (S3.out _ _ hrr.out).mono ?_); rintro e w' ⟨r6, rfl, hr, hb⟩; have n0_ := Aside0.mk (below_step HB.out hb); have hv6 := Aside0.mk hr; have k0_ := Aside0.mk (hv5.out.below hb); have k1_ := Aside0.mk (hq.out.below hb); clear HB hb hr hv5 hq; have HB := n0_; have hv5 := k0_; have hq := k1_; clear n0_ k0_ k1_) | (go_at_call 94; (with_reducible refine (CC.out _ _ _ hv6.out hv5.out).mono ?_); rintro e w' ⟨rfl, hb⟩; have hr := 0; have n0_ := Aside0.mk (below_step HB.out hb); have k0_ := Aside0.mk (hq.out.below hb); clear HB hb hr hq; have HB := n0_; have hq := k0_; clear n0_ k0_))
  rcases hcc3 with ⟨hc1, hc2⟩ | ⟨hc1, hc2⟩ | ⟨hc1, hc2⟩
  ·have hb := Aside0.mk (hup (by omega))
   subst hc2
   clear hup hno hc1 hq2
   go_wp2_with (first | ((with_reducible refine gate_dst (N := 63) rfl ?_); refine Kd.R_lit (Kd.int .u32) _ 35 ?hg (N := 63) ?hd (xs := ([1] : List Int)) (inner := [.int .u32 1]) (ok := fun _ => True) (okp := fun _ => True) ?hr ?hp (fun _ hk => hk) trivial (Below.refl _ _) (Nat.le_refl _) (by simp) ?_; (case hd => rfl); (case hg => rfl); (case hr => first | (go_simp; done) | (go_simp; rfl)); (case hp => exact (Reps.one (show Kd.M (Kd.int .u32) _ _ _ 1 [.int .u32 1] from rfl) (Reps.none _ _))); intro v1 w1 ho hb hg_ hnew_; clear hg_ hnew_; have h1 := Aside0.mk (show Nm w1 v1 1 from Nm.of_R (by rw [words_one]; exact ho)); have n0_ := Aside0.mk (below_step HB.out hb); clear ho; have hr := 0; have k0_ := Aside0.mk (hq.out.below hb); clear HB hb hr hq; have HB := n0_; have hq := k0_; clear n0_ k0_) | (go_at_call 77; (with_reducible refine (AA.out _ _ _ hq.out h1.out).mono ?_); rintro e w' ⟨r7, rfl, hr, hb⟩; have n0_ := Aside0.mk (below_step HB.out hb); have hq1 := Aside0.mk hr; clear HB hb hr ; have HB := n0_; clear n0_) | (go_at_call 95; (with_reducible refine (TX1.out _ _ hq1.out).mono ?_); rintro e w' ⟨rfl, hb⟩; have hr := 0; replace HB := bt_ HB hb; clear hb hr))
   go_ret
   exact ⟨by rw [hb.out]; rfl, HB.out⟩
  ·have hb := Aside0.mk (hup (by omega))
   subst hc2
   clear hup hno hc1 hq2
   go_wp2_with (first | ((with_reducible refine gate_dst (N := 63) rfl ?_); refine Kd.R_lit (Kd.int .u32) _ 35 ?hg (N := 63) ?hd (xs := ([1] : List Int)) (inner := [.int .u32 1]) (ok := fun _ => True) (okp := fun _ => True) ?hr ?hp (fun _ hk => hk) trivial (Below.refl _ _) (Nat.le_refl _) (by simp) ?_; (case hd => rfl); (case hg => rfl); (case hr => first | (go_simp; done) | (go_simp; rfl)); (case hp => exact (Reps.one (show Kd.M (Kd.int .u32) _ _ _ 1 [.int .u32 1] from rfl) (Reps.none _ _))); intro v1 w1 ho hb hg_ hnew_; clear hg_ hnew_; have h1 := Aside0.mk (show Nm w1 v1 1 from Nm.of_R (by rw [words_one]; exact ho)); have n0_ := Aside0.mk (below_step HB.out hb); clear ho; have hr := 0; have k0_ := Aside0.mk (hq.out.below hb); clear HB hb hr hq; have HB := n0_; have hq := k0_; clear n0_ k0_) | (go_at_call 77; (with_reducible refine (AA.out _ _ _ hq.out h1.out).mono ?_); rintro e w' ⟨r7, rfl, hr, hb⟩; have n0_ := Aside0.mk (below_step HB.out hb); have hq1 := Aside0.mk hr; clear HB hb hr ; have HB := n0_; clear n0_) | (go_at_call 95; (with_reducible refine (TX1.out _ _ hq1.out).mono ?_); rintro e w' ⟨rfl, hb⟩; have hr := 0; replace HB := bt_ HB hb; clear hb hr))
   go_ret
   exact ⟨by rw [hb.out]; rfl, HB.out⟩
  ·have hb := Aside0.mk (hno (by omega))
   subst hc2
   clear hup hno hc1 hq2
   go_wp2_with (first | (go_at_call 95; (with_reducible refine (TX0.out _ _ hq.out).mono ?_); rintro e w' ⟨rfl, hb⟩; have hr := 0; replace HB := bt_ HB hb; clear hb hr))
   go_ret
   exact ⟨by rw [hb.out]; rfl, HB.out⟩
 ·replace hq2 : Q % 2 = 0 := by omega
  rw [hq2] at hpar
  have hpar2 : bits .and .u32 y 1 = 0 := hpar
  clear hpar
  go_upto_region 6 with (first | (go_at_call 76; (with_reducible refine (S3.out _ _ hrr.out).mono ?_); rintro e w' ⟨r6, rfl, hr, hb⟩; have n0_ := Aside0.mk (below_step HB.out hb); have hv6 := Aside0.mk hr; have k0_ := Aside0.mk (hv5.out.below hb); have k1_ := Aside0.mk (hq.out.below hb); clear HB hb hr hv5 hq; have HB := n0_; have hv5 := k0_; have hq := k1_; clear n0_ k0_ k1_) | (go_at_call 94; (with_reducible refine (CC.out _ _ _ hv6.out hv5.out).mono ?_); rintro e w' ⟨rfl, hb⟩; have hr := 0; have n0_ := Aside0.mk (below_step HB.out hb); have k0_ := Aside0.mk (hq.out.below hb); clear HB hb hr hq; have HB := n0_; have hq := k0_; clear n0_ k0_))
  rcases hcc3 with ⟨hc1, hc2⟩ | ⟨hc1, hc2⟩ | ⟨hc1, hc2⟩
  ·have hb := Aside0.mk (hup (by omega))
   subst hc2
   clear hup hno hc1 hq2
   go_wp2_with (first | ((with_reducible refine gate_dst (N := 63) rfl ?_); refine Kd.R_lit (Kd.int .u32) _ 35 ?hg (N := 63) ?hd (xs := ([1] : List Int)) (inner := [.int .u32 1]) (ok := fun _ => True) (okp := fun _ => True) ?hr ?hp (fun _ hk => hk) trivial (Below.refl _ _) (Nat.le_refl _) (by simp) ?_; (case hd => rfl); (case hg => rfl); (case hr => first | (go_simp; done) | (go_simp; rfl)); (case hp => exact (Reps.one (show Kd.M (Kd.int .u32) _ _ _ 1 [.int .u32 1] from rfl) (Reps.none _ _))); intro v1 w1 ho hb hg_ hnew_; clear hg_ hnew_; have h1 := Aside0.mk (show Nm w1 v1 1 from Nm.of_R (by rw [words_one]; exact ho)); have n0_ := Aside0.mk (below_step HB.out hb); clear ho; have hr := 0; have k0_ := Aside0.mk (hq.out.below hb); clear HB hb hr hq; have HB := n0_; have hq := k0_; clear n0_ k0_) | (go_at_call 77; (with_reducible refine (AA.out _ _ _ hq.out h1.out).mono ?_); rintro e w' ⟨r7, rfl, hr, hb⟩; have n0_ := Aside0.mk (below_step HB.out hb); have hq1 := Aside0.mk hr; clear HB hb hr ; have HB := n0_; clear n0_) | (go_at_call 95; (with_reducible refine (TX1.out _ _ hq1.out).mono ?_); rintro e w' ⟨rfl, hb⟩; have hr := 0; replace HB := bt_ HB hb; clear hb hr))
   go_ret
   exact ⟨by rw [hb.out]; rfl, HB.out⟩
  ·have hb := Aside0.mk (hno (by omega))
   subst hc2
   clear hup hno hc1 hq2
   go_wp2_with (first | (go_at_call 95; (with_reducible refine (TX0.out _ _ hq.out).mono ?_); rintro e w' ⟨rfl, hb⟩; have hr := 0; replace HB := bt_ HB hb; clear hb hr))
   go_ret
   exact ⟨by rw [hb.out]; rfl, HB.out⟩
  ·have hb := Aside0.mk (hno (by omega))
   subst hc2
   clear hup hno hc1 hq2
   go_wp2_with (first | (go_at_call 95; (with_reducible refine (TX0.out _ _ hq.out).mono ?_); rintro e w' ⟨rfl, hb⟩; have hr := 0; replace HB := bt_ HB hb; clear hb hr))
   go_ret
   exact ⟨by rw [hb.out]; rfl, HB.out⟩
end Go.Proofs.YtdoeigngpemcgaaGreatDoor.Dec
namespace Go.Proofs.YtdoeigngpemcgaaGreatDoor.Dec
open Go.RowKit Go.Div Go.Proofs.YtdoeigngpemcgaaGreatDoor.PNat Go.Proofs.YtdoeigngpemcgaaGreatDoor.Pure Go.Proofs.YtdoeigngpemcgaaGreatDoorW.PrintWords Go.Proofs.YtdoeigngpemcgaaGreatDoorW.PrintLast Go.Proofs.YtdoeigngpemcgaaGreatDoorW.PrintMore
/-- a number in a row that lies from a place on -/
def Own (w : World) (base : Nat) (v : Value) (n : Nat) : Prop := Kd.R (Kd.int .u32) 35 w base (fun _ => True) v (Num.wordsN n)
theorem Own.nm {w : World} {base : Nat} {v : Value} {n : Nat} (h : Own w base v n) : Nm w v n := Nm.of_R h
theorem Own.below {w w1 : World} {base : Nat} {v : Value} {n : Nat} (h : Own w base v n) (hb : Below w.heap.size w w1) : Own w1 base v n := Kd.R_below h hb
theorem Own.lower {w : World} {base b : Nat} {v : Value} {n : Nat} (h : Own w base v n) (hb : b ≤ base) : Own w b v n := Kd.R_lower h hb
theorem R_keep {w w1 : World} {base g : Nat} {v : Value} {xs : List Int} (h : Kd.R (Kd.int .u32) 35 w base (fun _ => True) v xs) (hg : w.grownBy w1 (some g)) (hb : g < base) : Kd.R (Kd.int .u32) 35 w1 base (fun _ => True) v xs :=
 Kd.R_mono (Kd.R_grown (Kd.R_bound h) hg (fun k hk e => by injection e with e; have := hk.2.1; omega)) (fun _ _ => trivial)
theorem r_NormO {w : World} {v : Value} {l : List Int} (h : Kd.V (Kd.int .u32) 35 w 0 (fun _ => True) v l) (ok : Num.okW l) (hl : l.length ≤ 100000) :
  Calls Tryz.prog 99 #[v] w fun e w' => ∃ r, e = .returned r ∧ Own w' w.heap.size r (Num.valN l) ∧ Below w.heap.size w w' := by
 obtain ⟨A, c, rfl⟩ := Kd.V_slice h
 obtain ⟨_, h2, h3⟩ := Kd.V_reads' h
 have he := ev_rnorm l (by omega)
 rw [Num.trim_words ok] at he
 obtain ⟨k, hk⟩ := Ev.at he
 refine (bobbinref2_Norm.calls k _ _ _ _ w h3 h2 hk).mono ?_
 rintro e w' ⟨v, rfl, h1, h2⟩
 exact ⟨v, rfl, h1, h2⟩
theorem r_SubO {w : World} {v u : Value} {a b : Nat} (h0 : Nm w v a) (h1 : Nm w u b) (fa : Fit a) (fb : Fit b) (hle : b ≤ a) :
  Calls Tryz.prog 143 #[v, u] w fun e w' => ∃ r, e = .returned (.tuple #[r, .int .i64 0]) ∧ Own w' w.heap.size r (a - b) ∧ Below w.heap.size w w' := by
 obtain ⟨A, c, rfl, l0, g0, _⟩ := h0.open
 obtain ⟨A1, c1, rfl, l1, g1, _⟩ := h1.open
 have he := ev_rsub (Num.wordsN a) (Num.wordsN b) (Num.wordsN_ok a) (Num.wordsN_ok b) (by unfold Fit at fa; omega) (by unfold Fit at fb; omega)
 unfold subW at he
 rw [Num.wordsN_val, Num.wordsN_val, if_neg (by omega)] at he
 obtain ⟨k, hk⟩ := Ev.at he
 refine (bobbinref2_Sub.calls k _ _ _ _ _ _ _ _ w g0 l0 g1 l1 hk).mono ?_
 rintro e w' ⟨v, rfl, h1, h2⟩
 exact ⟨v, rfl, h1, h2⟩
theorem one_R (W : World) (x : Int) : Kd.R (Kd.int .u32) 35 (W.alloc (.cells #[.int .u32 x] 35)) W.heap.size (fun _ => True) (.slice (some ⟨W.heap.size, 0, none⟩) 1 1) [x] :=
 ⟨fun _ _ => trivial, [.int .u32 x], World.ownsRow_lit W _ 1 (Nat.le_refl _) (by simp [maxLen]) rfl, Reps.one (show Kd.M (Kd.int .u32) _ _ _ x [.int .u32 x] from rfl) (Reps.none _ _)⟩
theorem one_Nm (W : World) (x : Nat) (h : x < 4294967296) (h0 : x ≠ 0) : Nm (W.alloc (.cells #[.int .u32 (x : Int)] 35)) (.slice (some ⟨W.heap.size, 0, none⟩) 1 1) x := by
 have hw : Num.wordsN x = [(x : Int)] := by
  rw [Num.wordsN_pos (by omega), Nat.mod_eq_of_lt h, Nat.div_eq_of_lt h, Num.wordsN_zero]
 unfold Nm
 rw [hw]
 exact one_V W x
set_option maxRecDepth 100000 in
/-- by one word -/
theorem r_Divide_one {w : World} {v u : Value} {a b : Nat} (h0 : Nm w v a) (h1 : Nm w u b) (fa : Fit a) (hb0 : b ≠ 0) (hb : b < 4294967296) :
  Calls Tryz.prog 103 #[v, u] w fun e w' => ∃ q r, e = .returned (.tuple #[q, r, .int .i64 0]) ∧ Nm w' q (a / b) ∧ Nm w' r (a % b) ∧ Below w.heap.size w w' := by
 have fb : Fit b := fit_lt (b := 32) hb (by omega)
 have L0 := Aside0.mk (r_large h0 fa)
 have L1 := Aside0.mk (r_large h1 fb)
 have T0 := Aside0.mk (r_trimmed h0)
 have T1 := Aside0.mk (r_trimmed h1)
 have S := Aside0.mk (r_small w h0 fa b (Nat.pos_of_ne_zero hb0) hb)
 have hw : Num.wordsN b = [(b : Int)] := by
  rw [Num.wordsN_pos (by omega), Nat.mod_eq_of_lt hb, Nat.div_eq_of_lt hb, Num.wordsN_zero]
 have hlen : (Num.wordsN b).length = 1 := by rw [hw]; rfl
 obtain ⟨A1, c1, rfl, l1, C1, _⟩ := h1.open
 rw [hlen] at L1 T1 l1 C1
 rw [hlen]
 obtain ⟨ad, hA, hz⟩ := head_word (L := 1) (by rw [hlen] at h1; exact h1) hlen (by decide)
 subst hA
 rw [Nat.mod_eq_of_lt hb] at hz
 obtain ⟨bb, hbb⟩ : ∃ z : Int, (b : Int) = z := ⟨_, rfl⟩
 rw [hbb] at hz S
 obtain ⟨A0, c0, rfl, _, _, _⟩ := h0.open
 clear h0 h1 fa hb0 hb fb hw hlen l1 C1 hbb
 go_enter Tryz.func103, Tryz.ntmps103
 go_wp2_with (first
  | (go_at_call 100; (with_reducible refine L0.out.mono ?_); rintro e w' ⟨rfl, rfl⟩)
  | (go_at_call 100; (with_reducible refine L1.out.mono ?_); rintro e w' ⟨rfl, rfl⟩)
  | (go_at_call 101; (with_reducible refine T0.out.mono ?_); rintro e w' ⟨rfl, rfl⟩)
  | (go_at_call 101; (with_reducible refine T1.out.mono ?_); rintro e w' ⟨rfl, rfl⟩)
  | (go_at_call 142; (with_reducible refine S.out.mono ?_); rintro e w' ⟨q, r, rfl, hq, hr, hb⟩; have n0_ := Aside0.mk hq; have n1_ := Aside0.mk hr; have n2_ := Aside0.mk hb; clear hq hr hb; have hq := n0_; have hr := n1_; have HB := n2_; clear n0_ n1_ n2_))
 go_ret3
 exact ⟨_, _, rfl, hq.out, hr.out, HB.out⟩
set_option maxRecDepth 100000 in
theorem r_Divide_long {w : World} {v u : Value} {a b : Nat} (h0 : Nm w v a) (h1 : Nm w u b) (fa : Fit a) (fb : Fit (b * 4294967296)) (hb2 : 4294967296 ≤ b) :
  Calls Tryz.prog 103 #[v, u] w fun e w' => ∃ q r, e = .returned (.tuple #[q, r, .int .i64 0]) ∧ Nm w' q (a / b) ∧ Nm w' r (a % b) ∧ Below w.heap.size w w' := by
 have fb1 : Fit b := fit_le fb (by omega)
 have L0 := Aside0.mk (r_large h0 fa)
 have L1 := Aside0.mk (r_large h1 fb1)
 have T0 := Aside0.mk (r_trimmed h0)
 have T1 := Aside0.mk (r_trimmed h1)
 have HBN := Aside0.mk h1
 have hl1 : 1 < (Num.wordsN b).length := wordsN_len_ge (n := 1) (by rw [Nat.pow_one]; exact hb2)
 obtain ⟨A1, cb, rfl, _, _, _⟩ := h1.open
 obtain ⟨A, c, rfl, hlc, hC, _⟩ := h0.open
 obtain ⟨M, hM⟩ : ∃ n, (Num.wordsN b).length = n := ⟨_, rfl⟩
 rw [hM] at hl1 L1 T1 HBN
 rw [hM]
 have g1 : ((M : Int) == 0) = false := by rw [beq_eq_false_iff_ne]; omega
 have g2 : ((M : Int) == 1) = false := by rw [beq_eq_false_iff_ne]; omega
 have g3 : ¬ M = 0 := by omega
 have g4 : ¬ M = 1 := by omega
 have g5 : ¬ (M : Int) = 0 := by omega
 have g6 : ¬ (M : Int) = 1 := by omega
 obtain ⟨la, hla⟩ : ∃ l, Num.wordsN a = l := ⟨_, rfl⟩
 have hok := Num.wordsN_ok a
 have hval := Num.wordsN_val a
 have hlen : (Num.wordsN a).length ≤ 2000 := fa
 rw [hla] at hC hlc hok hval hlen L0 T0
 rw [hla]
 obtain ⟨n, hn⟩ : ∃ n, la.length = n := ⟨_, rfl⟩
 rw [hn] at hC hlc hlen L0 T0
 rw [hn]
 have HC := Aside0.mk hC
 have HOK := Aside0.mk hok
 have HN := Aside0.mk (show la.length = n ∧ n ≤ 2000 from ⟨hn, hlen⟩)
 have HV := Aside0.mk hval
 have HD := Aside0.mk (show 4294967296 ≤ b ∧ Fit b ∧ Fit (b * 4294967296) from ⟨hb2, fb1, fb⟩)
 have HB := Aside0.mk (Below.refl w.heap.size w)
 have w1 : wrap64 ((n : Int) - 1) = (n : Int) - 1 := i64_id (by omega) (by omega)
 have w2 : IntKind.i64.wrap ((n : Int) - 1) = (n : Int) - 1 := (i64_w _).trans w1
 have o1 : (0 : Int) ≤ (n : Int) := by omega
 have o2 : ((n : Int)).toNat ≤ 70368744177664 := by omega
 have p1 := decide_eq_true o1
 have p2 := decide_eq_true o2
 clear h0 h1 fa hla hok hval hlen hn hlc hC hb2 fb fb1 hM hl1
 go_enter Tryz.func103, Tryz.ntmps103
 go_wp2_with (first
  | (go_at_call 100; (with_reducible refine L0.out.mono ?_); rintro e w' ⟨rfl, hw⟩; obtain rfl := hw.symm)
  | (go_at_call 100; (with_reducible refine L1.out.mono ?_); rintro e w' ⟨rfl, hw⟩; obtain rfl := hw.symm)
  | (go_at_call 101; (with_reducible refine T0.out.mono ?_); rintro e w' ⟨rfl, hw⟩; obtain rfl := hw.symm)
  | (go_at_call 101; (with_reducible refine T1.out.mono ?_); rintro e w' ⟨rfl, hw⟩; obtain rfl := hw.symm)
  | ((with_reducible refine gate_dst (N := 47) rfl ?_); refine Kd.R_make (Kd.int .u32) _ 35 rfl (N := 47) rfl 58 _ _ rfl (n : Int) rfl rfl Tryz.underlying58 (.int .u32 0) 4 info35 rfl (by decide) (by omega) 0 (ok := fun _ => True) (okp := fun _ => True) rfl (fun _ hk => hk) trivial o1 (Nat.le_trans (Nat.mul_le_mul_right _ o2) (by omega)) (Below.refl _ _) (Nat.le_refl _) ?_; intro vq wq ho hb hg_ hnew_; clear hg_ hnew_; have HO := Aside0.mk (Kd.R_lower ho (below_size HB.out)); have n1_ := Aside0.mk (below_step HB.out hb); clear HB; have HB := n1_; clear n1_; clear hb ho))
 rw [Int.toNat_natCast] at HO
 have hend : hi (List.replicate n 0) n = 0 := by
  have := hi_end (List.replicate n 0)
  rw [List.length_replicate] at this
  exact this
 have hendA : hi la n = 0 := by rw [← HN.out.1]; exact hi_end la
 go_loopg [10, 11] n (fun kq v10 v11 wr => ∃ (x : List Int) (r : Nat), v11 = .int .i64 ((kq : Int) - 1) ∧ Aside0 (kq ≤ n ∧ x.length = n ∧ Num.okW x ∧ ∀ j (h : j < x.length), j < kq → x[j] = 0) ∧ Aside0 (hi x kq = hi la kq / b ∧ r = hi la kq % b) ∧ Aside0 (Kd.R (Kd.int .u32) 35 wr w.heap.size (fun _ => True) vq x) ∧ Aside0 (∃ base, (∀ k, vq.ownBlock = some k → k < base) ∧ Own wr base v10 r) ∧ Aside0 (Below w.heap.size w wr))
 case atStart => exact ⟨List.replicate n 0, 0, by first | rfl | (rw [w1]) | (rw [w2]), ⟨Nat.le_refl _, List.length_replicate, Go.Div.okW_zeros n, fun j h _ => List.getElem_replicate _⟩, ⟨by rw [hend, hendA, Nat.zero_div, Nat.zero_mod]; exact ⟨rfl, rfl⟩⟩, HO, ⟨wq.heap.size, fun k hk => ((Kd.R_bound HO.out).1 k hk).2.2.1, by unfold Own; rw [Num.wordsN_zero]; exact Kd.R_nil _ _ _ _ _⟩, HB⟩
 case round =>
  clear HO HB hend hendA
  obtain ⟨x, r, h8, HQ, HI, HO, HW, HB⟩ := hrel
  cases gk with
  | zero =>
   rw [show ((0 : Nat) : Int) - 1 = -1 from rfl] at h8
   subst h8
   have hq : Num.valN x = a / b := by have := HI.out.1; rw [hi_zero, hi_zero, HV.out] at this; exact this
   have hr : r = a % b := by have := HI.out.2; rw [hi_zero, HV.out] at this; exact this
   have HN1 := Aside0.mk (fun (wq : World) (hx : Kd.R (Kd.int .u32) 35 wq w.heap.size (fun _ => True) vq x) => r_NormV (V_of hx) HQ.out.2.2.1 (by have := HQ.out; have := HN.out; omega))
   rw [hq] at HN1
   obtain ⟨base, _, hown⟩ := HW.out
   rw [hr] at hown
   have HRN := Aside0.mk hown.nm
   clear hr hq hown
   go_wp2_with (go_at_call 99; (with_reducible refine (HN1.out _ HO.out).mono ?_); rintro e w' ⟨q1, rfl, hr, hb⟩; have hq1 := Aside0.mk hr; have m0_ := Aside0.mk (HRN.out.below hb); have n0_ := Aside0.mk (below_step HB.out hb); clear HB hb hr HRN; have HB := n0_; have HRN := m0_; clear n0_ m0_)
   go_ret3
   exact ⟨_, _, rfl, hq1.out, HRN.out, HB.out⟩
  | succ i =>
   rw [show ((i + 1 : Nat) : Int) - 1 = (i : Int) by omega] at h8
   subst h8
   have hin : i < n := by have := HQ.out.1; omega
   have hil : i < la.length := by have := HN.out.1; omega
   have hix : i < x.length := by have := HQ.out.2.1; omega
   obtain ⟨g7, g8⟩ := get_nat HOK.out hil
   obtain ⟨wi, hwi⟩ : ∃ z : Nat, (la[i]).toNat = z := ⟨_, rfl⟩
   rw [hwi] at g7 g8
   obtain ⟨ad, hA, hz0⟩ := Kd.at_int HC.out (i : Int) (by omega) (by omega)
   subst hA
   have hrd : rd la (i : Int) = (wi : Int) := by
    unfold rd
    rw [Int.toNat_natCast, List.getD_eq_getElem?_getD, List.getElem?_eq_getElem hil]
    exact g7.symm
   rw [hrd, Int.toNat_natCast] at hz0
   have hz := pw_cell_below HB.out hz0
   obtain ⟨base, hbase, hown⟩ := HW.out
   obtain ⟨Ar, cr, har, hlr, hCr, _⟩ := hown.nm.open
   subst har
   have hrl : r < b := by rw [HI.out.2]; exact Nat.mod_lt _ (by have := HD.out.1; omega)
   obtain ⟨r2, hr2⟩ : ∃ z : Nat, r * 4294967296 + wi = z := ⟨_, rfl⟩
   have hr2l : r2 < b * 4294967296 := by
    have : (r + 1) * 4294967296 ≤ b * 4294967296 := Nat.mul_le_mul_right _ hrl
    omega
   have fr2 : Fit r2 := fit_le HD.out.2.2 (by omega)
   have hval2 : Num.valN ([(wi : Int)] ++ Num.wordsN r) = r2 := by
    show (wi : Int).toNat + 4294967296 * Num.valN (Num.wordsN r) = r2
    rw [Num.wordsN_val]
    omega
   have hok2 : Num.okW ([(wi : Int)] ++ Num.wordsN r) := by
    intro z hz
    rcases List.mem_append.1 hz with h | h
    ·rw [List.mem_singleton.1 h]; omega
    ·exact Num.wordsN_ok r z h
   have frl : (Num.wordsN r).length ≤ 2000 := fit_le HD.out.2.1 (by omega)
   have HNO := Aside0.mk (fun (W : World) (vv : Value) (h : Kd.V (Kd.int .u32) 35 W 0 (fun _ => True) vv ([(wi : Int)] ++ Num.wordsN r)) => r_NormO h hok2 (by rw [List.length_append]; show 1 + _ ≤ _; omega))
   rw [hval2] at HNO
   have HCM := Aside0.mk (fun (W : World) (vv uu : Value) (h : Nm W vv r2) (k : Nm W uu b) => r_Compare h k fr2 HD.out.2.1)
   obtain ⟨wv, hwv⟩ : ∃ z : Int, (wi : Int) = z := ⟨_, rfl⟩
   have hCr' := Aside0.mk hCr
   have HL := Aside0.mk frl
   rw [hwv] at hz HNO
   obtain ⟨lr, hlr⟩ : ∃ l, Num.wordsN r = l := ⟨_, rfl⟩
   rw [hlr] at hCr' HNO HL
   rw [hlr]
   obtain ⟨cc, hcc⟩ : ∃ z, Num.cmpN r2 b = z := ⟨_, rfl⟩
   rw [hcc] at HCM
   have hccv : (r2 < b ∧ cc = -1) ∨ (b ≤ r2 ∧ 0 ≤ cc) := by
    rw [← hcc]
    unfold Num.cmpN
    split
    ·omega
    ·split <;> omega
   have c1 : (0 : Int) ≤ (i : Int) := by omega
   have c2 : (i : Int) < (n : Int) := by omega
   have HVB := Aside0.mk hbase
   have HR2 := Aside0.mk hr2
   have HRL := Aside0.mk hr2l
   have HWI := Aside0.mk (show hi la i = wi + 4294967296 * hi la (i + 1) ∧ wi < 4294967296 by rw [hi_step hil, hwi]; exact ⟨rfl, g8⟩)
   clear g7 g8 hwi hz0 hrd hown hCr hlr hrl hr2 hr2l fr2 hval2 hok2 frl hwv hcc hbase HW hin
   go_upto_region 16 with (first
    | ((with_reducible refine gate_builtin (b := .append) (xs := #[.tmp 59, .tmp 60]) rfl ?_); at_builtin; refine Kd.R_append_rows (Kd.int .u32) (w0 := w) w.heap.size rfl (.tmp 59) (.tmp 60) 58 35 (.int .u32 0) 4 rfl Tryz.underlying58 info35 rfl (by decide) (by omega) (.slice (some ⟨wr.heap.size, 0, none⟩) 1 1) ([wv] : List Int) lr _ _ _ (fun _ => True) (fun _ => False) rfl rfl ?aO ?aR (fun _ _ h => h) (fun _ h => h.elim) ?aF ?aB ?aS ?aL ?_; (case aR => exact Kd.C_alloc hCr'.out _); (case aB => exact below_alloc HB.out _); (case aF => exact (fun _ _ => trivial)); (case aO => exact Kd.R_lower (one_R wr wv) (below_size HB.out)); (case aS => exact below_size (below_alloc HB.out _)); (case aL => have := HL.out; show (1 + _) * 4 ≤ _; omega); intro v1 w5 ho hb hg hat; have HV1 := Aside0.mk (V_of ho); have hbb := Aside0.mk (show Below wr.heap.size wr w5 from Below.grown (below_alloc (Below.refl wr.heap.size wr) _) hg (by rw [World.size_alloc]; omega) (fun j hj => by cases hj; exact Nat.le_refl _)); clear ho hb hg hat)
    | (go_at_call 99; (refine (HNO.out _ _ HV1.out).mono ?_); rintro e w6 ⟨rv, rfl, hr, hb⟩; have hB6 := Aside0.mk (below_step hbb.out hb); have hrv := Aside0.mk (hr.lower hbb.out.size); clear hr hb hbb HV1))
   have HO6 := Aside0.mk (Kd.R_below HO.out hB6.out)
   have HB6 := Aside0.mk (below_step HB.out hB6.out)
   have HBase := Aside0.mk (fun k hk => ((Kd.R_bound HO.out).1 k hk).2.2.1)
   obtain ⟨Hb, hHb⟩ : ∃ z, wr.heap.size = z := ⟨_, rfl⟩
   rw [hHb] at hrv HBase
   have HBN6 := Aside0.mk (HBN.out.below HB6.out)
   clear HO HB hB6 hCr' HNO hHb hz
   rcases hccv with ⟨hlt, hcv⟩ | ⟨hge, hcv⟩
   ·have d1 := decide_eq_true (show cc < 0 by omega)
    have HI2 := Aside0.mk (show hi x i = hi la i / b ∧ r2 = hi la i % b from by
     obtain ⟨s1, s2⟩ := step_div (h := hi la (i + 1)) (w := wi) (show 0 < b by have := HD.out.1; omega)
     rw [hi_step hix, HQ.out.2.2.2 i hix (by omega), HWI.out.1, HI.out.1, s1, s2, ← HI.out.2, HR2.out, Nat.div_eq_of_lt hlt, Nat.mod_eq_of_lt hlt]
     exact ⟨rfl, rfl⟩)
    have HQ2 := Aside0.mk (show i ≤ n ∧ x.length = n ∧ Num.okW x ∧ ∀ j (h : j < x.length), j < i → x[j] = 0 from ⟨by omega, HQ.out.2.1, HQ.out.2.2.1, fun j h k => HQ.out.2.2.2 j h (by omega)⟩)
    have d7 : wrap64 ((i : Int) - 1) = (i : Int) - 1 := by have := HN.out; rw [i64_id (by omega) (by omega)]
    have d8 : IntKind.i64.wrap ((i : Int) - 1) = (i : Int) - 1 := (i64_w _).trans d7
    clear hlt hcv HI HQ hix hil
    go_wp2_with (go_at_call 102; (with_reducible refine (HCM.out _ _ _ hrv.out.nm HBN6.out).mono ?_); rintro e w7 ⟨rfl, hb⟩; replace HB6 := bt_ HB6 hb; replace HO6 := Aside0.mk (Kd.R_below HO6.out hb); replace hrv := Aside0.mk (hrv.out.below hb); clear hb)
    go_roundg i
    case measure => omega
    case rel => exact ⟨x, r2, by first | rfl | rw [d7] | rw [d8], HQ2, HI2, HO6, ⟨Hb, HBase.out, hrv.out⟩, HB6⟩
   ·have d1 := decide_eq_false (show ¬ cc < 0 by omega)
    clear hcv
    go_wp2_with (go_at_call 102; (with_reducible refine (HCM.out _ _ _ hrv.out.nm HBN6.out).mono ?_); rintro e w7 ⟨rfl, hb⟩; replace HB6 := bt_ HB6 hb; replace HO6 := Aside0.mk (Kd.R_below HO6.out hb); replace hrv := Aside0.mk (hrv.out.below hb); replace HBN6 := Aside0.mk (HBN6.out.below hb); clear hb)
    go_loopg [12, 13] 4294967294 (fun kq v12 v13 w2 => ∃ (lo hh : Nat), v12 = .int .u64 (lo : Int) ∧ v13 = .int .u64 (hh : Int) ∧ Aside0 (1 ≤ lo ∧ lo ≤ hh ∧ hh ≤ 4294967295 ∧ hh - lo ≤ kq ∧ b * lo ≤ r2 ∧ r2 < b * (hh + 1)) ∧ Aside0 (Kd.R (Kd.int .u32) 35 w2 w.heap.size (fun _ => True) vq x) ∧ Aside0 (Own w2 Hb rv r2) ∧ Aside0 (Nm w2 (.slice A1 M cb) b) ∧ Aside0 (Below w.heap.size w w2))
    case atStart => exact ⟨1, 4294967295, rfl, rfl, ⟨by decide, by decide, by decide, by decide, by omega, HRL.out⟩, HO6, hrv, HBN6, HB6⟩
    case round =>
     clear HO6 hrv HBN6 HB6
     obtain ⟨lo, hh, rfl, rfl, HL2, HO6, hrv, HBN6, HB6⟩ := hrel
     have hlo : lo < 4294967296 := by have := HL2.out; omega
     have HMM := Aside0.mk (fun (m : Nat) (hm : m < 4294967296) (hm0 : m ≠ 0) (W : World) (h : Nm W (.slice A1 M cb) b) => r_Mul (h.below (below_alloc (Below.refl _ _) (.cells #[.int .u32 (m : Int)] 35))) (one_Nm W m hm hm0) HD.out.2.1 (fit_lt (b := 32) hm (by omega)) (fit_le HD.out.2.2 (Nat.mul_le_mul_left _ (by omega))))
     by_cases hlt : lo < hh
     ·obtain ⟨m, hm⟩ : ∃ m, (lo + hh + 1) / 2 = m := ⟨_, rfl⟩
      have hmb : lo < m ∧ m ≤ hh ∧ m < 4294967296 := by have := HL2.out; omega
      have HMm := Aside0.mk (HMM.out m hmb.2.2 (by omega))
      have fbm : Fit (b * m) := fit_le HD.out.2.2 (Nat.mul_le_mul_left _ (by omega))
      have HC2 := Aside0.mk (fun (W : World) (vv uu : Value) (h : Nm W vv (b * m)) (k : Nm W uu r2) => r_Compare h k fbm (fit_le HD.out.2.2 (by have := HRL.out; omega)))
      obtain ⟨ce, hce⟩ : ∃ z, Num.cmpN (b * m) r2 = z := ⟨_, rfl⟩
      rw [hce] at HC2
      have hcev : (b * m ≤ r2 ∧ ce ≤ 0) ∨ (r2 < b * m ∧ 0 < ce) := by
       rw [← hce]
       unfold Num.cmpN
       split
       ·omega
       ·split <;> omega
      have c3 : ((lo : Int) < (hh : Int)) := by omega
      have c4 := decide_eq_true c3
      obtain ⟨lov, hlov⟩ : ∃ z : Int, (lo : Int) = z := ⟨_, rfl⟩
      obtain ⟨hhv, hhhv⟩ : ∃ z : Int, (hh : Int) = z := ⟨_, rfl⟩
      obtain ⟨mv, hmv⟩ : ∃ z : Int, (m : Int) = z := ⟨_, rfl⟩
      obtain ⟨s1, hs1⟩ : ∃ z : Int, lov + hhv = z := ⟨_, rfl⟩
      obtain ⟨s2, hs2⟩ : ∃ z : Int, s1 + 1 = z := ⟨_, rfl⟩
      have hhb := HL2.out.2.2.1
      have e1 : IntKind.u64.wrap (lov + hhv) = s1 := by rw [IntKind.wrap_u64]; omega
      have e2 : IntKind.u64.wrap (s1 + 1) = s2 := by rw [IntKind.wrap_u64]; omega
      have e3 : s2.tdiv 2 = mv := by
       rw [Int.tdiv_eq_ediv_of_nonneg (by omega)]
       omega
      have e4 : IntKind.u64.wrap mv = mv := by rw [IntKind.wrap_u64]; omega
      have e5 : IntKind.u32.wrap mv = mv := by rw [IntKind.wrap_u32]; omega
      have e6 : mv % 4294967296 = mv := by omega
      obtain ⟨mm, hmm⟩ : ∃ z : Int, mv - 1 = z := ⟨_, rfl⟩
      have e7 : IntKind.u64.wrap (mv - 1) = mm := by rw [IntKind.wrap_u64]; omega
      have e8 : s2 / 2 = mv := by omega
      rw [hmv] at HMm
      rw [hlov, hhhv] at c3 c4
      rw [hlov, hhhv]
      have HMV := Aside0.mk hmv
      have HMM1 := Aside0.mk (show ((m - 1 : Nat) : Int) = mm by omega)
      have HMB := Aside0.mk hmb
      have HLH := Aside0.mk (show lov = (lo : Int) ∧ hhv = (hh : Int) from ⟨hlov.symm, hhhv.symm⟩)
      clear hm hmb fbm hce hlov hhhv hmv hs1 hs2 hhb hmm hlt
      rcases hcev with ⟨k1, k2⟩ | ⟨k1, k2⟩
      ·have d2 := decide_eq_true k2
       have HQ3 := Aside0.mk (show 1 ≤ m ∧ m ≤ hh ∧ hh ≤ 4294967295 ∧ hh - m ≤ hh - m ∧ b * m ≤ r2 ∧ r2 < b * (hh + 1) from ⟨by have := HMB.out; omega, HMB.out.2.1, HL2.out.2.2.1, Nat.le_refl _, k1, HL2.out.2.2.2.2.2⟩)
       clear k1 k2
       go_wp2_with (first
        | (go_at_call 80; (refine (HMm.out _ HBN6.out).mono ?_); rintro e w8 ⟨pv, rfl, hr, hb⟩; have hB8 := Aside0.mk (below_step (below_alloc (Below.refl _ _) _) hb); have hp := Aside0.mk hr; replace HB6 := Aside0.mk (below_step HB6.out hB8.out); replace HO6 := Aside0.mk (Kd.R_below HO6.out hB8.out); replace hrv := Aside0.mk (hrv.out.below hB8.out); replace HBN6 := Aside0.mk (HBN6.out.below hB8.out); clear hb hr hB8)
        | (go_at_call 102; (with_reducible refine (HC2.out _ _ _ hp.out hrv.out.nm).mono ?_); rintro e w9 ⟨rfl, hb⟩; replace HB6 := bt_ HB6 hb; replace HO6 := Aside0.mk (Kd.R_below HO6.out hb); replace hrv := Aside0.mk (hrv.out.below hb); replace HBN6 := Aside0.mk (HBN6.out.below hb); clear hb))
       go_roundg (hh - m)
       case measure => have := HL2.out; have := HMB.out; omega
       case rel => exact ⟨m, hh, by rw [HMV.out], by rw [HLH.out.2], HQ3, HO6, hrv, HBN6, HB6⟩
      ·have d2 := decide_eq_false (show ¬ ce ≤ 0 by omega)
       have HQ3 := Aside0.mk (show 1 ≤ lo ∧ lo ≤ m - 1 ∧ m - 1 ≤ 4294967295 ∧ m - 1 - lo ≤ m - 1 - lo ∧ b * lo ≤ r2 ∧ r2 < b * (m - 1 + 1) from ⟨HL2.out.1, by have := HMB.out; omega, by have := HMB.out; omega, Nat.le_refl _, HL2.out.2.2.2.2.1, by rw [show m - 1 + 1 = m by have := HMB.out; omega]; exact k1⟩)
       clear k1 k2
       go_wp2_with (first
        | (go_at_call 80; (refine (HMm.out _ HBN6.out).mono ?_); rintro e w8 ⟨pv, rfl, hr, hb⟩; have hB8 := Aside0.mk (below_step (below_alloc (Below.refl _ _) _) hb); have hp := Aside0.mk hr; replace HB6 := Aside0.mk (below_step HB6.out hB8.out); replace HO6 := Aside0.mk (Kd.R_below HO6.out hB8.out); replace hrv := Aside0.mk (hrv.out.below hB8.out); replace HBN6 := Aside0.mk (HBN6.out.below hB8.out); clear hb hr hB8)
        | (go_at_call 102; (with_reducible refine (HC2.out _ _ _ hp.out hrv.out.nm).mono ?_); rintro e w9 ⟨rfl, hb⟩; replace HB6 := bt_ HB6 hb; replace HO6 := Aside0.mk (Kd.R_below HO6.out hb); replace hrv := Aside0.mk (hrv.out.below hb); replace HBN6 := Aside0.mk (HBN6.out.below hb); clear hb))
       go_roundg (m - 1 - lo)
       case measure => have := HL2.out; have := HMB.out; omega
       case rel => exact ⟨lo, m - 1, by rw [HLH.out.1], by rw [HMM1.out], HQ3, HO6, hrv, HBN6, HB6⟩
     ·have hlohh : lo = hh := by have := HL2.out; omega
      have hq : r2 / b = lo := by
       have hbp : 0 < b := by have := HD.out.1; omega
       have k1 : b * lo ≤ r2 := HL2.out.2.2.2.2.1
       have k2 : r2 < b * (lo + 1) := by rw [hlohh]; exact HL2.out.2.2.2.2.2
       exact Nat.le_antisymm (Nat.le_of_lt_succ ((Nat.div_lt_iff_lt_mul hbp).2 (by rw [Nat.mul_comm]; exact k2))) ((Nat.le_div_iff_mul_le hbp).2 (by rw [Nat.mul_comm]; exact k1))
      have hmod : r2 - b * lo = r2 % b := by
       have := Nat.div_add_mod r2 b
       rw [hq] at this
       omega
      have HQ3 := Aside0.mk (show 1 ≤ lo ∧ lo < 4294967296 ∧ b * lo ≤ r2 ∧ r2 - b * lo = r2 % b ∧ r2 / b = lo from ⟨HL2.out.1, hlo, HL2.out.2.2.2.2.1, hmod, hq⟩)
      have HMm := Aside0.mk (HMM.out lo hlo (by have := HL2.out; omega))
      have fr2 : Fit r2 := fit_le HD.out.2.2 (by have := HRL.out; omega)
      have HS := Aside0.mk (fun (W : World) (vv uu : Value) (h : Nm W vv r2) (k : Nm W uu (b * lo)) => r_SubO h k fr2 (fit_le HD.out.2.2 (by have := HL2.out; have := HRL.out; omega)) HL2.out.2.2.2.2.1)
      have c3 : ¬ ((lo : Int) < (hh : Int)) := by omega
      have c4 := decide_eq_false c3
      obtain ⟨lov, hlov⟩ : ∃ z : Int, (lo : Int) = z := ⟨_, rfl⟩
      obtain ⟨hhv, hhhv⟩ : ∃ z : Int, (hh : Int) = z := ⟨_, rfl⟩
      have e5 : IntKind.u32.wrap lov = lov := by rw [IntKind.wrap_u32]; omega
      have e6 : lov % 4294967296 = lov := by omega
      have HLV := Aside0.mk (show (lo : Int) = lov ∧ 0 ≤ lov ∧ lov < 4294967296 by omega)
      rw [hlov] at HMm c3 c4
      rw [hhhv] at c3 c4
      rw [hlov, hhhv]
      clear hlt hlohh hq hmod fr2 hlov hhhv HMM HL2 hlo
      go_upto_region 27 with (first
       | (go_at_call 80; (refine (HMm.out _ HBN6.out).mono ?_); rintro e w8 ⟨pv, rfl, hr, hb⟩; have hB8 := Aside0.mk (below_step (below_alloc (Below.refl _ _) _) hb); have hp := Aside0.mk hr; replace HB6 := Aside0.mk (below_step HB6.out hB8.out); replace HO6 := Aside0.mk (Kd.R_below HO6.out hB8.out); replace hrv := Aside0.mk (hrv.out.below hB8.out); replace HBN6 := Aside0.mk (HBN6.out.below hB8.out); clear hb hr hB8)
       | (go_at_call 143; (refine (HS.out _ _ _ hrv.out.nm hp.out).mono ?_); rintro e w9 ⟨sv, rfl, hr, hb⟩; have n0_ := Aside0.mk (below_step HB6.out hb); have n1_ := Aside0.mk (Kd.R_below HO6.out hb); have n2_ := Aside0.mk hr; have n3_ := Aside0.mk (fun k hk => ((Kd.R_bound HO6.out).1 k hk).2.2.1); clear HB6 HO6 hrv hb hr hp HBase; have HB6 := n0_; have HO6 := n1_; have hrv := n2_; have HBase := n3_; clear n0_ n1_ n2_ n3_))
      obtain ⟨go, co, rfl, gb, gl, cl, HG⟩ := Kd.R_form HO6.out (by have := HQ.out; omega)
      obtain ⟨hx, hf⟩ := Kd.R_celln 0 HO6.out (i : Int) (by omega) (by omega)
      rw [Int.toNat_natCast] at hx hf
      have c3 : (i : Int) < (x.length : Int) := by omega
      have HP := Aside0.mk (Kd.R_putg HO6.out (i : Int) lov)
      rw [Int.toNat_natCast] at HP
      have GB := Aside0.mk gb
      have GHb := Aside0.mk (HBase.out go rfl)
      have HQ2 := Aside0.mk (show i ≤ n ∧ (x.set i lov).length = n ∧ Num.okW (x.set i lov) ∧ ∀ j (h : j < (x.set i lov).length), j < i → (x.set i lov)[j] = 0 from ⟨by have := HQ.out; omega, by rw [List.length_set]; exact HQ.out.2.1, okW_set HQ.out.2.2.1 i HLV.out.2, fun j h k => by rw [List.getElem_set_ne (by omega)]; exact HQ.out.2.2.2 j (by rw [List.length_set] at h; exact h) (by omega)⟩)
      have HI2 := Aside0.mk (show hi (x.set i lov) i = hi la i / b ∧ r2 - b * lo = hi la i % b from by
       obtain ⟨s1, s2⟩ := step_div (h := hi la (i + 1)) (w := wi) (show 0 < b by have := HD.out.1; omega)
       rw [hi_set hix, HWI.out.1, HI.out.1, s1, s2, ← HI.out.2, HR2.out, HQ3.out.2.2.2.1, HQ3.out.2.2.2.2]
       refine ⟨?_, rfl⟩
       congr 1
       have := HLV.out
       omega)
      have d7 : wrap64 ((i : Int) - 1) = (i : Int) - 1 := by have := HN.out; have := HQ.out; rw [i64_id (by omega) (by omega)]
      have d8 : IntKind.i64.wrap ((i : Int) - 1) = (i : Int) - 1 := (i64_w _).trans d7
      clear gb gl cl HG hix hil HI HO6 HQ
      go_wp2
      go_roundg i
      case measure => omega
      case rel => exact ⟨x.set i lov, r2 - b * lo, by first | rfl | rw [d7] | rw [d8], HQ2, HI2, ⟨HP.out.1⟩, ⟨_, fun k hk => HBase.out k hk, R_keep hrv.out HP.out.2 GHb.out⟩, ⟨below_set HB6.out GB.out⟩⟩
theorem r_Divide {w : World} {v u : Value} {a b : Nat} (h0 : Nm w v a) (h1 : Nm w u b) (fa : Fit a) (fb : Fit (b * 4294967296)) (hb0 : b ≠ 0) :
  Calls Tryz.prog 103 #[v, u] w fun e w' => ∃ q r, e = .returned (.tuple #[q, r, .int .i64 0]) ∧ Nm w' q (a / b) ∧ Nm w' r (a % b) ∧ Below w.heap.size w w' := by
 by_cases h : b < 4294967296
 ·exact r_Divide_one h0 h1 fa hb0 h
 ·exact r_Divide_long h0 h1 fa fb (by omega)
set_option maxRecDepth 100000 in
theorem r_Low {w : World} {v : Value} {a : Nat} (h : Nm w v a) (fa : Fit a) :
  Calls Tryz.prog 105 #[v] w fun e w' => e = .returned (.int .u64 ((a % 18446744073709551616 : Nat) : Int)) ∧ w' = w := by
 obtain ⟨A, c, rfl, hc, hC, _⟩ := h.open
 obtain ⟨n, hn⟩ : ∃ n, (Num.wordsN a).length = n := ⟨_, rfl⟩
 have hf : (Num.wordsN a).length ≤ 2000 := fa
 rw [hn] at hC hc hf h ⊢
 by_cases c0 : n = 0
 ·subst c0
  have ha : a = 0 := by rw [← Num.wordsN_val a, List.eq_nil_of_length_eq_zero hn]; rfl
  subst ha
  clear hn hC h hf fa hc
  go_enter Tryz.func105, Tryz.ntmps105
  go_wp2
  go_ret
  exact ⟨rfl, rfl⟩
 ·obtain ⟨ad, hA, hz⟩ := head_word h hn (by omega)
  subst hA
  obtain ⟨x, hx⟩ : ∃ z : Nat, a % 4294967296 = z := ⟨_, rfl⟩
  rw [hx] at hz
  have g0 := decide_eq_true (show 0 < n by omega)
  have gn : 0 < n := by omega
  have u1 : IntKind.u64.wrap (x : Int) = (x : Int) := by rw [IntKind.wrap_u64]; omega
  by_cases c1 : n = 1
  ·subst c1
   have ha : a % 18446744073709551616 = x := by
    have h1 := fit_iff.1 (Nat.le_of_eq hn)
    rw [Nat.pow_one] at h1
    omega
   rw [ha]
   obtain ⟨xv, hxv⟩ : ∃ z : Int, (x : Int) = z := ⟨_, rfl⟩
   rw [hxv] at hz u1 ⊢
   clear hn hC h hf fa hc hx hxv ha c0
   go_enter Tryz.func105, Tryz.ntmps105
   go_wp2
   go_ret
   exact ⟨by first | rfl | rw [u1], rfl⟩
  ·have hz1 := Kd.foot_int hC 1 (by omega) (by omega)
   have g1 := decide_eq_true (show (1 : Int) < (n : Int) by omega)
   have g2 : (1 : Int) < (n : Int) := by omega
   have g3 : (0 : Int) < (n : Int) := by omega
   have h4 : 4294967296 ≤ a := by
    rcases Nat.lt_or_ge a 4294967296 with z | z
    ·have := wordsN_len (n := 1) (by rw [Nat.pow_one]; exact z)
     omega
    ·exact z
   have hr : rd (Num.wordsN a) 1 = ((a / 4294967296 % 4294967296 : Nat) : Int) := by
    rw [Num.wordsN_pos (by omega), Num.wordsN_pos (v := a / 4294967296) (Nat.div_pos h4 (by decide))]
    rfl
   rw [hr] at hz1
   obtain ⟨y, hy⟩ : ∃ z : Nat, a / 4294967296 % 4294967296 = z := ⟨_, rfl⟩
   rw [hy] at hz1
   rw [show a % 18446744073709551616 = y * 4294967296 + x by omega]
   obtain ⟨s, hs⟩ : ∃ z : Int, ((y * 4294967296 + x : Nat) : Int) = z := ⟨_, rfl⟩
   have b1 : bits .or .u64 (x : Int) ((y : Int) * 4294967296) = s := by
    rw [show (y : Int) * 4294967296 = ((y * 4294967296 : Nat) : Int) by omega, u64_or_nat _ _ (by omega) (by omega), ← hs]
    congr 1
    rw [Nat.or_comm]
    have p32 : (2 : Nat) ^ 32 = 4294967296 := rfl
    exact nat_join 32 (y * 4294967296) x (by rw [p32]; exact Nat.mul_mod_left _ _) (by rw [p32]; omega)
   have u2 : IntKind.u64.wrap ((y : Int) * 4294967296) = (y : Int) * 4294967296 := by rw [IntKind.wrap_u64]; omega
   have u3 : IntKind.u64.wrap (y : Int) = (y : Int) := by rw [IntKind.wrap_u64]; omega
   rw [hs]
   obtain ⟨xv, hxv⟩ : ∃ z : Int, (x : Int) = z := ⟨_, rfl⟩
   obtain ⟨yv, hyv⟩ : ∃ z : Int, (y : Int) = z := ⟨_, rfl⟩
   rw [hxv] at hz u1 b1
   rw [hyv] at hz1 b1 u2 u3
   rw [show ad.add (1 : Int).toNat = ⟨ad.block, ad.off + 1, none⟩ from rfl] at hz1
   clear hn hC h hf fa hc hx hxv c0 c1 hy hyv hr h4 hs
   go_enter Tryz.func105, Tryz.ntmps105
   go_wp2
   go_ret
   exact ⟨by first | rfl | rw [b1], rfl⟩
set_option maxRecDepth 100000 in
theorem r_Shl {w : World} {v : Value} {a : Nat} (h0 : Nm w v a) (fa : Fit a) (m : Nat) (hm0 : 0 < m) (hm : m ≤ 64000) (hf : Fit (a * 2 ^ m)) :
  Calls Tryz.prog 43 #[v, .int .i64 (m : Int)] w fun e w' => ∃ r, e = .returned (.tuple #[r, .int .i64 0]) ∧ Nm w' r (a * 2 ^ m) ∧ Below w.heap.size w w' := by
 have L0 := Aside0.mk (r_large h0 fa)
 have T0 := Aside0.mk (r_trimmed h0)
 obtain ⟨A, c, rfl, hlc, hC, _⟩ := h0.open
 obtain ⟨la, hla⟩ : ∃ l, Num.wordsN a = l := ⟨_, rfl⟩
 have hok := Num.wordsN_ok a
 have hval := Num.wordsN_val a
 have hlen : (Num.wordsN a).length ≤ 2000 := fa
 rw [hla] at hC hlc hok hval hlen L0 T0
 rw [hla]
 obtain ⟨n, hn⟩ : ∃ n, la.length = n := ⟨_, rfl⟩
 rw [hn] at hC hlc hlen L0 T0
 rw [hn]
 obtain ⟨q, hq⟩ : ∃ q, m / 32 = q := ⟨_, rfl⟩
 obtain ⟨r, hr⟩ : ∃ r, m % 32 = r := ⟨_, rfl⟩
 have hmr : 32 * q + r = m := by omega
 have HC := Aside0.mk hC
 have HOK := Aside0.mk hok
 have HN := Aside0.mk (show la.length = n ∧ n ≤ 2000 from ⟨hn, hlen⟩)
 have HV := Aside0.mk hval
 have HF := Aside0.mk hf
 have HQ := Aside0.mk (show q ≤ 2000 ∧ r < 32 ∧ 32 * q + r = m by omega)
 have HB := Aside0.mk (Below.refl w.heap.size w)
 obtain ⟨mv, hmv⟩ : ∃ z : Int, (m : Int) = z := ⟨_, rfl⟩
 have Z1 := wrp (x := (q : Int)) (y := (q : Int)) (by omega)
 have Z2 := wrp (x := (n : Int) + (q : Int)) (y := ((n + q : Nat) : Int)) (by omega)
 have Z3 := wrp (x := ((n + q : Nat) : Int) + 1) (y := ((n + q + 1 : Nat) : Int)) (by omega)
 obtain ⟨N, hN⟩ : ∃ z, n + q + 1 = z := ⟨_, rfl⟩
 rw [hN] at Z3
 obtain ⟨nq, hnq⟩ : ∃ z : Int, ((n + q : Nat) : Int) = z := ⟨_, rfl⟩
 rw [hnq] at Z2 Z3
 have HNN := Aside0.mk hN
 have x2 := decide_eq_false (show ¬ (64000 : Int) < mv by omega)
 have x3 := decide_eq_true (show (0 : Int) < mv by omega)
 have x4 : (0 : Int) ≤ (r : Int) := by omega
 have o1 : (0 : Int) ≤ (N : Int) := by omega
 have o2 : ((N : Int)).toNat ≤ 70368744177664 := by omega
 have p1 := decide_eq_true o1
 have p2 := decide_eq_true o2
 have z1 : mv.tdiv 32 = (q : Int) := by rw [← hmv, ← hq]; exact (Int.ofNat_tdiv _ _).symm
 have z2 : mv.tmod 32 = (r : Int) := by rw [← hmv, ← hr]; exact (Int.ofNat_tmod _ _).symm
 rw [hmv]
 clear h0 fa hla hok hval hlen hn hlc hC hm hm0 hq hr hmr hmv hf hN hnq
 obtain ⟨z3, z4⟩ := Z1.out
 obtain ⟨z5, z6⟩ := Z2.out
 obtain ⟨z7, z8⟩ := Z3.out
 clear Z1 Z2 Z3
 go_enter Tryz.func43, Tryz.ntmps43
 go_wp2_with (first
  | (go_at_call 100; (with_reducible refine L0.out.mono ?_); rintro e w' ⟨rfl, hw⟩; obtain rfl := hw.symm)
  | (go_at_call 101; (with_reducible refine T0.out.mono ?_); rintro e w' ⟨rfl, hw⟩; obtain rfl := hw.symm)
  | ((with_reducible refine gate_dst (N := 28) rfl ?_); refine Kd.R_make (Kd.int .u32) _ 35 rfl (N := 28) rfl 58 _ _ rfl (N : Int) rfl rfl Tryz.underlying58 (.int .u32 0) 4 info35 rfl (by decide) (by omega) 0 (ok := fun _ => True) (okp := fun _ => True) rfl (fun _ hk => hk) trivial o1 (Nat.le_trans (Nat.mul_le_mul_right _ o2) (by omega)) (Below.refl _ _) (Nat.le_refl _) ?_; intro vq wq ho hb hg_ hnew_; clear hg_ hnew_; have HO := Aside0.mk (Kd.R_lower ho (below_size HB.out)); have n1_ := Aside0.mk (below_step HB.out hb); clear HB; have HB := n1_; clear n1_; clear hb ho))
 rw [Int.toNat_natCast] at HO
 have HS0 := shl_start la q r
 rw [HN.out.1, HNN.out] at HS0
 go_loopg [7] n (fun kq v7 wr => ∃ (k : Nat) (x : List Int), v7 = .int .i64 (k : Int) ∧ Aside0 (k + kq = n) ∧ Aside0 (Shl la q r k x) ∧ Aside0 (Kd.R (Kd.int .u32) 35 wr w.heap.size (fun _ => True) vq x) ∧ Aside0 (Below w.heap.size w wr))
 case atStart => exact ⟨0, List.replicate N 0, rfl, ⟨Nat.zero_add n⟩, ⟨HS0⟩, HO, HB⟩
 case round =>
  clear HO HB HS0
  obtain ⟨k, x, rfl, HK, HS, HO, HB⟩ := hrel
  cases gk with
  | zero =>
   have hk : k = n := HK.out
   subst hk
   have hlx : x.length = N := by rw [HS.out.1, HN.out.1]; exact HNN.out
   have hvx : Num.valN x = a * 2 ^ m := by
    have h := HS.out
    rw [← HN.out.1] at h
    rw [shl_end h, HV.out, HQ.out.2.2]
   have HN1 := Aside0.mk (fun (wq : World) (hx : Kd.R (Kd.int .u32) 35 wq w.heap.size (fun _ => True) vq x) => r_NormV (V_of hx) HS.out.2.1 (by have := HNN.out; have := HN.out; have := HQ.out; omega))
   rw [hvx] at HN1
   have x5 := decide_eq_false (show ¬ (k : Int) < (k : Int) by omega)
   obtain ⟨L, hL⟩ : ∃ z, (Num.wordsN (a * 2 ^ m)).length = z := ⟨_, rfl⟩
   have hL2 := HF.out
   unfold Fit at hL2
   have HL := Aside0.mk hL
   rw [hL] at hL2
   have x6 := decide_eq_false (show ¬ (2000 : Int) < (L : Int) by omega)
   clear hlx hvx hL hL2
   go_wp2_with (go_at_call 99; (with_reducible refine (HN1.out _ HO.out).mono ?_); rintro e w' ⟨q1, rfl, hr, hb⟩; obtain ⟨Aq, cq, haq, -, -, -⟩ := hr.open; rw [HL.out] at haq; subst haq; have hq1 := Aside0.mk hr; replace HB := bt_ HB hb; clear hb hr)
   go_ret2
   exact ⟨_, rfl, hq1.out, HB.out⟩
  | succ i =>
   have hkn : k < n := by have := HK.out; omega
   have hil : k < la.length := by have := HN.out.1; omega
   have hlx : x.length = N := by rw [HS.out.1, HN.out.1]; exact HNN.out
   have hnn := HNN.out
   have hqq := HQ.out
   have hnl := HN.out
   obtain ⟨g7, g8⟩ := get_nat HOK.out hil
   obtain ⟨wi, hwi⟩ : ∃ z : Nat, (la[k]).toNat = z := ⟨_, rfl⟩
   rw [hwi] at g7 g8
   obtain ⟨ad, hA, hz0⟩ := Kd.at_int HC.out (k : Int) (by omega) (by omega)
   subst hA
   have hrd : rd la (k : Int) = (wi : Int) := by
    unfold rd
    rw [Int.toNat_natCast, List.getD_eq_getElem?_getD, List.getElem?_eq_getElem hil]
    exact g7.symm
   rw [hrd, Int.toNat_natCast] at hz0
   have hz := pw_cell_below HB.out hz0
   have i1 : k + q < x.length := by omega
   obtain ⟨z, hzz⟩ : ∃ z : Nat, (x[k + q]).toNat = z := ⟨_, rfl⟩
   obtain ⟨g1, g2⟩ := get_nat HS.out.2.1 i1
   rw [hzz] at g1 g2
   obtain ⟨X, hX⟩ : ∃ z : Nat, wi * 2 ^ r = z := ⟨_, rfl⟩
   obtain ⟨s1, s2, s3, s4⟩ := shl_step hil HOK.out hqq.2.1 HS.out (x := X) (z := z) (by rw [hwi]; exact hX) (fun _ => hzz)
   have i2 : k + q + 1 < x.length := by omega
   have hzero := HS.out.2.2.2.2 _ i2 (by omega)
   obtain ⟨go, co, rfl, gb, gl, cl, HG⟩ := Kd.R_form HO.out (by omega)
   obtain ⟨hx, hf⟩ := Kd.R_celln 0 HO.out ((k + q : Nat) : Int) (by omega) (by omega)
   have hr0 : rdOf 0 x ((k + q : Nat) : Int) = (z : Int) := by
    unfold rdOf
    rw [Int.toNat_natCast, List.getD_eq_getElem?_getD, List.getElem?_eq_getElem i1]
    exact g1.symm
   rw [hr0] at hx
   rw [Int.toNat_natCast] at hx hf
   have hsh := shl64 wi r (by omega)
   rw [hX, Nat.mod_eq_of_lt (by omega)] at hsh
   unfold shl at hsh
   rw [show IntKind.u64.bits = 64 from rfl, Int.toNat_natCast] at hsh
   have hlow0 : X % 4294967296 % 2 ^ r = 0 := by rw [← hX]; exact shl_low (by omega)
   have b1 : bits .or .u32 (z : Int) ((X % 4294967296 : Nat) : Int) = ((z + X % 4294967296 : Nat) : Int) := by
    rw [u32_or_nat _ _ (by omega) (by omega), Nat.or_comm, nat_join r _ _ hlow0 s3, Nat.add_comm]
   have b2 : bits .or .u32 0 ((X / 4294967296 : Nat) : Int) = ((X / 4294967296 : Nat) : Int) := by
    rw [show (0 : Int) = ((0 : Nat) : Int) from rfl, u32_or_nat _ _ (by omega) (by omega), Nat.zero_or]
   obtain ⟨K, hK⟩ : ∃ z, k + q = z := ⟨_, rfl⟩
   obtain ⟨K1, hK1⟩ : ∃ z, K + 1 = z := ⟨_, rfl⟩
   have W1 := wrp (x := (k : Int) + (q : Int)) (y := (K : Int)) (by omega)
   have W2 := wrp (x := (K : Int) + 1) (y := (K1 : Int)) (by omega)
   have W3 := wrp (x := (k : Int) + 1) (y := ((k + 1 : Nat) : Int)) (by omega)
   rw [hK] at hx hf s4 i1 i2
   rw [hK1] at s4 i2
   obtain ⟨y1, hy1⟩ : ∃ y : Int, ((z + X % 4294967296 : Nat) : Int) = y := ⟨_, rfl⟩
   obtain ⟨y2, hy2⟩ : ∃ y : Int, ((X / 4294967296 : Nat) : Int) = y := ⟨_, rfl⟩
   obtain ⟨xl, hxl⟩ : ∃ y : Int, ((X % 4294967296 : Nat) : Int) = y := ⟨_, rfl⟩
   obtain ⟨Xv, hXv⟩ : ∃ y : Int, ((X : Nat) : Int) = y := ⟨_, rfl⟩
   rw [hy1, hxl] at b1
   rw [hy1, hy2] at s4
   rw [hy2] at b2
   rw [hXv] at hsh
   have c1 : (0 : Int) ≤ (k : Int) := by omega
   have c2 : (k : Int) < (n : Int) := by omega
   have c3 : (0 : Int) ≤ (K : Int) := by omega
   have c4 : (K : Int) < (x.length : Int) := by omega
   have c5 : (0 : Int) ≤ (K1 : Int) := by omega
   have c6 : (K1 : Int) < (x.length : Int) := by omega
   have e1 : IntKind.u32.wrap Xv = xl := by rw [IntKind.wrap_u32]; omega
   have e2 : Xv % 4294967296 = xl := by omega
   have e3 : Xv / 4294967296 = y2 := by omega
   have e4 : IntKind.u32.wrap y2 = y2 := by rw [IntKind.wrap_u32]; omega
   have e5 : y2 % 4294967296 = y2 := by omega
   obtain ⟨wv, hwv⟩ : ∃ y : Int, (wi : Int) = y := ⟨_, rfl⟩
   have e6 : IntKind.u64.wrap wv = wv := by rw [IntKind.wrap_u64]; omega
   obtain ⟨zv, hzv⟩ : ∃ y : Int, (z : Int) = y := ⟨_, rfl⟩
   rw [hwv] at hsh hz
   rw [hzv] at hx b1
   have HP := Aside0.mk (Kd.R_putg HO.out (K : Int) y1)
   rw [Int.toNat_natCast] at HP
   have GB := Aside0.mk gb
   have HZ := Aside0.mk hzero
   have HK2 := Aside0.mk (show k + 1 + i = n by have := HK.out; omega)
   have HS2 := Aside0.mk s4
   have HKK := Aside0.mk (show K < x.length ∧ K1 < x.length ∧ K1 = K + 1 ∧ k + q = K ∧ K ≠ K1 by omega)
   clear hkn hil hlx hnn hqq hnl g7 g8 hwi hrd hz0 g1 g2 hzz hX s1 s2 s3 s4 i1 i2 hzero gb gl cl HG hr0 hlow0 hK hK1 hy1 hy2 hxl hXv hwv hzv HK HS
   obtain ⟨w1, w2⟩ := W1.out
   obtain ⟨w3, w4⟩ := W2.out
   obtain ⟨w5, w6⟩ := W3.out
   clear W1 W2 W3
   go_upto_region 11 with (fail)
   have HO2 := HP.out.1
   have HB2 := below_set HB.out (v := .int .u32 y1) (j := K) GB.out
   generalize hW : World.setCell _ _ _ = w6 at HO2 HB2 ⊢
   obtain ⟨hx2, hf2⟩ := Kd.R_celln 0 HO2 (K1 : Int) c5 c6
   have hr2 : rdOf 0 (x.set K y1) (K1 : Int) = 0 := by
    have hk := HKK.out
    unfold rdOf
    rw [Int.toNat_natCast, List.getD_eq_getElem?_getD, List.getElem?_eq_getElem (by rw [List.length_set]; exact hk.2.1)]
    show (x.set K y1)[K1]'_ = 0
    rw [List.getElem_set_ne hk.2.2.2.2]
    have := HZ.out
    simp only [hk.2.2.2.1, ← hk.2.2.1] at this
    exact this
   rw [hr2] at hx2
   rw [Int.toNat_natCast] at hx2 hf2
   have HP2 := Aside0.mk (Kd.R_putg HO2 (K1 : Int) y2)
   rw [Int.toNat_natCast] at HP2
   have HB3 := Aside0.mk HB2
   clear hr2 HO2 HB2 HP HZ HKK HB HO hx hf hW
   go_wp2
   go_roundg i
   case measure => omega
   case rel => exact ⟨k + 1, (x.set K y1).set K1 y2, by first | rfl | rw [w5] | rw [w6], HK2, HS2, ⟨HP2.out.1⟩, ⟨below_set HB3.out GB.out⟩⟩
set_option maxRecDepth 100000 in
theorem r_Shr {w : World} {v : Value} {a : Nat} (h0 : Nm w v a) (fa : Fit a) (m : Nat) (hm : m < 64000) :
  Calls Tryz.prog 43 #[v, .int .i64 (-(m : Int))] w fun e w' => ∃ r, e = .returned (.tuple #[r, .int .i64 0]) ∧ Nm w' r (a / 2 ^ m) ∧ Below w.heap.size w w' := by
 have L0 := Aside0.mk (r_large h0 fa)
 have T0 := Aside0.mk (r_trimmed h0)
 obtain ⟨A, c, rfl, hlc, hC, _⟩ := h0.open
 obtain ⟨la, hla⟩ : ∃ l, Num.wordsN a = l := ⟨_, rfl⟩
 have hok := Num.wordsN_ok a
 have hval := Num.wordsN_val a
 have hlen : (Num.wordsN a).length ≤ 2000 := fa
 rw [hla] at hC hlc hok hval hlen L0 T0
 rw [hla]
 obtain ⟨n, hn⟩ : ∃ n, la.length = n := ⟨_, rfl⟩
 rw [hn] at hC hlc hlen L0 T0
 rw [hn]
 obtain ⟨q, hq⟩ : ∃ q, m / 32 = q := ⟨_, rfl⟩
 obtain ⟨r, hr⟩ : ∃ r, m % 32 = r := ⟨_, rfl⟩
 have hmr : 32 * q + r = m := by omega
 have HC := Aside0.mk hC
 have HOK := Aside0.mk hok
 have HN := Aside0.mk (show la.length = n ∧ n ≤ 2000 from ⟨hn, hlen⟩)
 have HV := Aside0.mk hval
 have HQ := Aside0.mk (show q ≤ 2000 ∧ r < 32 ∧ 32 * q + r = m by omega)
 have HB := Aside0.mk (Below.refl w.heap.size w)
 obtain ⟨mm, hmm⟩ : ∃ z : Int, (m : Int) = z := ⟨_, rfl⟩
 obtain ⟨mv, hmv⟩ : ∃ z : Int, -(m : Int) = z := ⟨_, rfl⟩
 have Z1 := wrp (x := (q : Int)) (y := (q : Int)) (by omega)
 have Z2 := wrp (x := -mv) (y := mm) (by omega)
 have x2 := decide_eq_false (show ¬ (64000 : Int) < mv by omega)
 have x3 := decide_eq_false (show ¬ (0 : Int) < mv by omega)
 have x5 := decide_eq_false (show ¬ mv ≤ -64000 by omega)
 have x4 : (0 : Int) ≤ (r : Int) := by omega
 have z1 : mm.tdiv 32 = (q : Int) := by rw [← hmm, ← hq]; exact (Int.ofNat_tdiv _ _).symm
 have z2 : mm.tmod 32 = (r : Int) := by rw [← hmm, ← hr]; exact (Int.ofNat_tmod _ _).symm
 rw [hmv]
 clear h0 fa hla hok hval hlen hn hlc hC hm hq hr hmr hmv hmm
 obtain ⟨z3, z4⟩ := Z1.out
 obtain ⟨z5, z6⟩ := Z2.out
 clear Z1 Z2
 go_enter Tryz.func43, Tryz.ntmps43
 go_wp2_with (first
  | (go_at_call 100; (with_reducible refine L0.out.mono ?_); rintro e w' ⟨rfl, hw⟩; obtain rfl := hw.symm)
  | (go_at_call 101; (with_reducible refine T0.out.mono ?_); rintro e w' ⟨rfl, hw⟩; obtain rfl := hw.symm))
 go_loopg [9, 10] n (fun kq v9 v10 wr => ∃ (k j : Nat) (x : List Int), v10 = .int .i64 (j : Int) ∧ Aside0 (q + k = j ∧ n ≤ kq + j ∧ k ≤ 2000 ∧ j ≤ 4000) ∧ Aside0 (Shr la q r k x) ∧ Aside0 (Kd.R (Kd.int .u32) 35 wr w.heap.size (fun _ => True) v9 x) ∧ Aside0 (Below w.heap.size w wr))
 case atStart => exact ⟨0, q, [], rfl, ⟨rfl, by omega, by omega, by have := HQ.out; omega⟩, ⟨shr_start la q r⟩, ⟨Kd.R_nil _ _ _ _ _⟩, HB⟩
 case round =>
  clear HB
  obtain ⟨k, j, x, rfl, HK, HS, HO, HB⟩ := hrel
  by_cases hjn : n ≤ j
  ·have hvx : Num.valN x = a / 2 ^ m := by
    have h := HK.out
    rw [shr_end HOK.out HS.out (by have := HN.out; omega), HV.out, HQ.out.2.2]
   have HN1 := Aside0.mk (fun (wq : World) (vv : Value) (hx : Kd.R (Kd.int .u32) 35 wq w.heap.size (fun _ => True) vv x) => r_NormV (V_of hx) HS.out.2.1 (by have := HS.out.1; have := HK.out; omega))
   rw [hvx] at HN1
   have c1 := decide_eq_false (show ¬ j < n by omega)
   clear hvx hjn
   go_wp2_with (go_at_call 99; (with_reducible refine (HN1.out _ _ HO.out).mono ?_); rintro e w' ⟨q1, rfl, hr, hb⟩; have hq1 := Aside0.mk hr; replace HB := bt_ HB hb; clear hb hr)
   go_ret2
   exact ⟨_, rfl, hq1.out, HB.out⟩
  ·have hil : j < la.length := by have := HN.out.1; omega
   have hkk := HK.out
   have hqq := HQ.out
   have hnl := HN.out
   obtain ⟨g7, g8⟩ := get_nat HOK.out hil
   obtain ⟨wi, hwi⟩ : ∃ z : Nat, (la[j]).toNat = z := ⟨_, rfl⟩
   have h2w := two_words HOK.out hil
   rw [hwi] at g7 g8 h2w
   obtain ⟨ad, hA, hz0⟩ := Kd.at_int HC.out (j : Int) (by omega) (by omega)
   subst hA
   have hrd : rd la (j : Int) = (wi : Int) := by
    unfold rd
    rw [Int.toNat_natCast, List.getD_eq_getElem?_getD, List.getElem?_eq_getElem hil]
    exact g7.symm
   rw [hrd, Int.toNat_natCast] at hz0
   have hz := pw_cell_below HB.out hz0
   obtain ⟨wn, hwn⟩ : ∃ z : Nat, (la[j + 1]?.getD 0).toNat = z := ⟨_, rfl⟩
   rw [hwn] at h2w
   obtain ⟨X, hX⟩ : ∃ z : Nat, wi + 4294967296 * wn = z := ⟨_, rfl⟩
   rw [hX] at h2w
   have hst := shr_step HOK.out (r := r) (by omega) HS.out (x := X) (by rw [hkk.1]; exact h2w)
   have g9 : wn < 4294967296 := by
    rw [← hwn]
    rcases Nat.lt_or_ge (j + 1) la.length with c | c
    ·rw [List.getElem?_eq_getElem c]
     exact (get_nat HOK.out c).2
    ·rw [List.getElem?_eq_none c]
     decide
   have hsh := shr64 X r (by omega)
   unfold shr at hsh
   rw [show IntKind.u64.bits = 64 from rfl, Int.toNat_natCast] at hsh
   obtain ⟨yv, hyv⟩ : ∃ z : Int, ((X / 2 ^ r % 4294967296 : Nat) : Int) = z := ⟨_, rfl⟩
   obtain ⟨sv, hsv⟩ : ∃ z : Int, ((X / 2 ^ r : Nat) : Int) = z := ⟨_, rfl⟩
   have e1 : IntKind.u32.wrap sv = yv := by rw [IntKind.wrap_u32]; omega
   have e2 : sv % 4294967296 = yv := by omega
   rw [hyv] at hst
   rw [hsv] at hsh
   have W1 := wrp (x := (j : Int) + 1) (y := ((j + 1 : Nat) : Int)) (by omega)
   have c1 : (0 : Int) ≤ (j : Int) := by omega
   have c2 : (j : Int) < (n : Int) := by omega
   have c3 : j < n := by omega
   obtain ⟨wv, hwv⟩ : ∃ y : Int, (wi : Int) = y := ⟨_, rfl⟩
   have e6 : IntKind.u64.wrap wv = wv := by rw [IntKind.wrap_u64]; omega
   have HS1 := Aside0.mk (show x.length ≤ 2000 by have := HS.out.1; omega)
   have HST := Aside0.mk hst
   have HK2 := Aside0.mk (show q + (k + 1) = j + 1 ∧ n ≤ gk - 1 + (j + 1) ∧ k + 1 ≤ 2000 ∧ j + 1 ≤ 4000 ∧ gk - 1 < gk by omega)
   by_cases hj1 : j + 1 < n
   ·have hn2 : (la[j + 1]?.getD 0) = (wn : Int) := by
     rw [List.getElem?_eq_getElem (show j + 1 < la.length by omega)] at hwn ⊢
     have := (get_nat HOK.out (show j + 1 < la.length by omega)).1
     show la[j + 1] = _
     rw [← this]
     congr 1
    have hz3 := Kd.foot_int HC.out ((j + 1 : Nat) : Int) (by omega) (by omega)
    have hrd2 : rd la ((j + 1 : Nat) : Int) = (wn : Int) := by
     unfold rd
     rw [Int.toNat_natCast, List.getD_eq_getElem?_getD]
     exact hn2
    rw [hrd2, Int.toNat_natCast] at hz3
    have hz4 := pw_cell_below HB.out hz3
    obtain ⟨nv, hnv⟩ : ∃ y : Int, (wn : Int) = y := ⟨_, rfl⟩
    obtain ⟨Xv, hXv⟩ : ∃ y : Int, (X : Int) = y := ⟨_, rfl⟩
    have b1 : bits .or .u64 wv (nv * 4294967296) = Xv := by
     rw [← hwv, ← hnv, show (wn : Int) * 4294967296 = ((wn * 4294967296 : Nat) : Int) by omega, u64_or_nat _ _ (by omega) (by omega), ← hXv, ← hX, Nat.or_comm]
     congr 1
     have p32 : (2 : Nat) ^ 32 = 4294967296 := rfl
     rw [nat_join 32 (wn * 4294967296) wi (by rw [p32]; exact Nat.mul_mod_left _ _) (by rw [p32]; exact g8)]
     omega
    have e7 : IntKind.u64.wrap nv = nv := by rw [IntKind.wrap_u64]; omega
    have e8 : IntKind.u64.wrap (nv * 4294967296) = nv * 4294967296 := by rw [IntKind.wrap_u64]; omega
    obtain ⟨J, hJ⟩ : ∃ z, j + 1 = z := ⟨_, rfl⟩
    have c4 : (0 : Int) ≤ (J : Int) := by omega
    have c5 : (J : Int) < (n : Int) := by omega
    have c6 : J < n := by omega
    rw [hJ] at hz4 W1 HK2
    rw [hwv] at hz
    rw [hnv] at hz4
    rw [hXv] at hsh
    clear hjn hil hkk hqq hnl g7 g8 hwi h2w hz0 hrd hwn hX hst g9 hyv hsv hwv HK HS hj1 hn2 hz3 hrd2 hnv hXv hJ
    obtain ⟨w1, w2⟩ := W1.out
    clear W1
    go_wp2_with (first
    | ((with_reducible refine gate_builtin (b := .append) (xs := #[.tmp 115, .tmp 121]) rfl ?_); at_builtin; refine Kd.R_append_rows (Kd.int .u32) (w0 := w) w.heap.size rfl (.tmp 115) (.tmp 121) 58 35 (.int .u32 0) 4 rfl Tryz.underlying58 info35 rfl (by decide) (by omega) _ x ([yv] : List Int) _ _ _ (fun _ => True) (fun _ => False) rfl rfl ?aO ?aR (fun _ _ h => h) (fun _ h => h.elim) ?aF ?aB ?aS ?aL ?_; (case aR => exact (Kd.V_reads' (one_V wr yv)).2.2); (case aB => exact below_alloc HB.out _); (case aF => exact (fun _ _ => trivial)); (case aO => exact Kd.R_alloc HO.out _); (case aS => exact below_size (below_alloc HB.out _)); (case aL => have := HS1.out; show (_ + 1) * 4 ≤ _; omega); intro v1 w5 ho hb hg hat; have HO2 := Aside0.mk ho; have HB2 := Aside0.mk hb; clear ho hb hg hat))
    go_roundg (gk - 1)
    case measure => exact HK2.out.2.2.2.2
    case rel => exact ⟨k + 1, J, x ++ [yv], by first | rfl | rw [w1] | rw [w2], ⟨HK2.out.1, HK2.out.2.1, HK2.out.2.2.1, HK2.out.2.2.2.1⟩, HST, HO2, HB2⟩
   ·have hwn0 : wn = 0 := by
     rw [← hwn, List.getElem?_eq_none (by omega)]
     rfl
    have hXw : (X : Int) = wv := by omega
    rw [hXw] at hsh
    rw [hwv] at hz
    obtain ⟨J, hJ⟩ : ∃ z, j + 1 = z := ⟨_, rfl⟩
    have c6 := decide_eq_false (show ¬ J < n by omega)
    rw [hJ] at W1 HK2
    clear hjn hil hkk hqq hnl g7 g8 hwi h2w hz0 hrd hwn hX hst g9 hyv hsv hwv HK HS hj1 hwn0 hXw hJ
    obtain ⟨w1, w2⟩ := W1.out
    clear W1
    go_wp2_with (first
    | ((with_reducible refine gate_builtin (b := .append) (xs := #[.tmp 115, .tmp 121]) rfl ?_); at_builtin; refine Kd.R_append_rows (Kd.int .u32) (w0 := w) w.heap.size rfl (.tmp 115) (.tmp 121) 58 35 (.int .u32 0) 4 rfl Tryz.underlying58 info35 rfl (by decide) (by omega) _ x ([yv] : List Int) _ _ _ (fun _ => True) (fun _ => False) rfl rfl ?aO ?aR (fun _ _ h => h) (fun _ h => h.elim) ?aF ?aB ?aS ?aL ?_; (case aR => exact (Kd.V_reads' (one_V wr yv)).2.2); (case aB => exact below_alloc HB.out _); (case aF => exact (fun _ _ => trivial)); (case aO => exact Kd.R_alloc HO.out _); (case aS => exact below_size (below_alloc HB.out _)); (case aL => have := HS1.out; show (_ + 1) * 4 ≤ _; omega); intro v1 w5 ho hb hg hat; have HO2 := Aside0.mk ho; have HB2 := Aside0.mk hb; clear ho hb hg hat))
    go_roundg (gk - 1)
    case measure => exact HK2.out.2.2.2.2
    case rel => exact ⟨k + 1, J, x ++ [yv], by first | rfl | rw [w1] | rw [w2], ⟨HK2.out.1, HK2.out.2.1, HK2.out.2.2.1, HK2.out.2.2.2.1⟩, HST, HO2, HB2⟩
end Go.Proofs.YtdoeigngpemcgaaGreatDoor.Dec
namespace Go.Proofs.YtdoeigngpemcgaaGreatDoor.Dec
open Go.RowKit Go.Flt Go.Read Go.Proofs.YtdoeigngpemcgaaGreatDoor.PDec Go.Proofs.YtdoeigngpemcgaaGreatDoor.Pure Go.Proofs.YtdoeigngpemcgaaGreatDoorW.PrintWords Go.Proofs.YtdoeigngpemcgaaGreatDoorW.PrintLast Go.Proofs.YtdoeigngpemcgaaGreatDoorW.PrintMore
set_option maxRecDepth 100000 in
theorem r3_IsNaN (w : World) (a : Nat) (ha : a < 18446744073709551616) : Calls Tryz.prog 96 #[.int .u64 (a : Int)] w fun e w' => e = .returned (.bool (fnan a)) ∧ w' = w := by
 have h := abs_and a ha
 obtain ⟨y, hy⟩ : ∃ y : Int, ((a % 9223372036854775808 : Nat) : Int) = y := ⟨_, rfl⟩
 obtain ⟨b, hb⟩ : ∃ b, fnan a = b := ⟨_, rfl⟩
 have h2 : decide (9218868437227405312 < y) = b := by
  rw [← hb]
  unfold fnan
  rw [Bool.eq_iff_iff]
  simp only [beq_iff_eq, decide_eq_true_iff]
  omega
 have h3 : decide (y = 9218868437227405312) = (y == 9218868437227405312) := (Bool.beq_eq_decide_eq _ _).symm
 obtain ⟨aa, haa⟩ : ∃ z : Int, (a : Int) = z := ⟨_, rfl⟩
 rw [hy, haa] at h
 rw [haa, hb]
 clear ha hy hb haa
 go_enter Tryz.func96, Tryz.ntmps96
 go_wp2
 go_ret
 exact ⟨by first | rfl | rw [h2], rfl⟩
set_option maxRecDepth 100000 in
theorem r3_IsInf (w : World) (a : Nat) (ha : a < 18446744073709551616) : Calls Tryz.prog 97 #[.int .u64 (a : Int)] w fun e w' => e = .returned (.bool (finf a)) ∧ w' = w := by
 have h := abs_and a ha
 obtain ⟨y, hy⟩ : ∃ y : Int, ((a % 9223372036854775808 : Nat) : Int) = y := ⟨_, rfl⟩
 obtain ⟨b, hb⟩ : ∃ b, finf a = b := ⟨_, rfl⟩
 have h2 : (y == 9218868437227405312) = b := by
  rw [← hb]
  unfold finf
  rw [Bool.eq_iff_iff]
  simp only [beq_iff_eq, decide_eq_true_iff]
  omega
 have h3 : decide (y = 9218868437227405312) = (y == 9218868437227405312) := (Bool.beq_eq_decide_eq _ _).symm
 obtain ⟨aa, haa⟩ : ∃ z : Int, (a : Int) = z := ⟨_, rfl⟩
 rw [hy, haa] at h
 rw [haa, hb]
 clear ha hy hb haa
 go_enter Tryz.func97, Tryz.ntmps97
 go_wp2
 go_ret
 exact ⟨by first | rfl | rw [h2], rfl⟩
theorem sign_and (a : Nat) (ha : a < 18446744073709551616) : a &&& 9223372036854775808 = if 9223372036854775808 ≤ a then 9223372036854775808 else 0 := by
 have hp : (9223372036854775808 : Nat) = 2 ^ 63 := rfl
 apply Nat.eq_of_testBit_eq
 intro i
 by_cases h : 9223372036854775808 ≤ a
 ·rw [if_pos h, hp, Nat.testBit_and, Nat.testBit_two_pow]
  by_cases c : 63 = i
  ·subst c
   rw [Nat.testBit_eq_decide_div_mod_eq, decide_eq_true (show a / 2 ^ 63 % 2 = 1 by omega)]
   rfl
  ·rw [decide_eq_false c, Bool.and_false]
 ·rw [if_neg h, hp, Nat.testBit_and, Nat.testBit_two_pow, Nat.zero_testBit]
  by_cases c : 63 = i
  ·subst c
   rw [Nat.testBit_eq_decide_div_mod_eq, decide_eq_false (show ¬ a / 2 ^ 63 % 2 = 1 by omega)]
   rfl
  ·rw [decide_eq_false c, Bool.and_false]
set_option maxRecDepth 100000 in
theorem r3_Minus (w : World) (a : Nat) (ha : a < 18446744073709551616) : Calls Tryz.prog 98 #[.int .u64 (a : Int)] w fun e w' => e = .returned (.bool (fneg a)) ∧ w' = w := by
 obtain ⟨y, hy⟩ : ∃ y : Int, ((if 9223372036854775808 ≤ a then 9223372036854775808 else 0 : Nat) : Int) = y := ⟨_, rfl⟩
 have h : bits .and .u64 (a : Int) 9223372036854775808 = y := by
  rw [show (9223372036854775808 : Int) = ((9223372036854775808 : Nat) : Int) from rfl, u64_and_nat _ _ ha (by decide), sign_and a ha]
  exact hy
 obtain ⟨b, hb⟩ : ∃ b, fneg a = b := ⟨_, rfl⟩
 have h2 : (y != 0) = b := by
  rw [← hb, ← hy]
  unfold fneg
  by_cases c : 9223372036854775808 ≤ a
  ·rw [if_pos c, decide_eq_true c]; rfl
  ·rw [if_neg c, decide_eq_false c]; rfl
 obtain ⟨aa, haa⟩ : ∃ z : Int, (a : Int) = z := ⟨_, rfl⟩
 rw [haa] at h
 rw [haa, hb]
 clear ha hy hb haa
 go_enter Tryz.func98, Tryz.ntmps98
 go_wp2
 go_ret
 exact ⟨by first | rfl | rw [h2], rfl⟩
set_option maxRecDepth 100000 in
theorem r3_Split_bad (w : World) (a : Nat) (ha : a < 18446744073709551616) (h : ffin a = false) : Calls Tryz.prog 41 #[.int .u64 (a : Int)] w fun e w' => e = .returned (.tuple #[.bool false, .slice none 0 0, .int .i64 0, .bool false]) ∧ Below w.heap.size w w' := by
 have HN := Aside0.mk (fun w => r3_IsNaN w a ha)
 have HI := Aside0.mk (fun w => r3_IsInf w a ha)
 rw [ffin_iff] at h
 obtain ⟨aa, haa⟩ : ∃ z : Int, (a : Int) = z := ⟨_, rfl⟩
 rw [haa] at HN HI
 rw [haa]
 cases hn : fnan a with
 | true =>
  rw [hn] at HN
  clear hn h HI ha haa
  go_enter Tryz.func41, Tryz.ntmps41
  go_wp2_with (go_at_call 96; (with_reducible refine (HN.out _).mono ?_); rintro e w' ⟨rfl, rfl⟩)
  refine bodyPost_ret (res_four rfl _ _ _) rfl ?_
  exact ⟨rfl, Below.refl _ _⟩
 | false =>
  have hi : finf a = true := by
   rw [hn] at h
   simpa using h
  rw [hn] at HN
  rw [hi] at HI
  clear hn hi h ha haa
  go_enter Tryz.func41, Tryz.ntmps41
  go_wp2_with (first | (go_at_call 96; (with_reducible refine (HN.out _).mono ?_); rintro e w' ⟨rfl, rfl⟩) | (go_at_call 97; (with_reducible refine (HI.out _).mono ?_); rintro e w' ⟨rfl, rfl⟩))
  refine bodyPost_ret (res_four rfl _ _ _) rfl ?_
  exact ⟨rfl, Below.refl _ _⟩
set_option maxRecDepth 100000 in
theorem r3_Split_good (w : World) (a : Nat) (ha : a < 18446744073709551616) (h : ffin a = true) : Calls Tryz.prog 41 #[.int .u64 (a : Int)] w fun e w' => ∃ v, e = .returned (.tuple #[.bool (fneg a), v, .int .i64 (fpow a), .bool true]) ∧ Nm w' v (fmant a) ∧ Below w.heap.size w w' := by
 have HN := Aside0.mk (fun w => r3_IsNaN w a ha)
 have HI := Aside0.mk (fun w => r3_IsInf w a ha)
 have HM := Aside0.mk (fun w => r3_Minus w a ha)
 have hml : fmant a < 18446744073709551616 := by unfold fmant; split <;> omega
 have HO := Aside0.mk (fun w => r_Of w (fmant a) hml)
 have HB := Aside0.mk (Below.refl w.heap.size w)
 rw [ffin_iff, Bool.and_eq_true, Bool.not_eq_true', Bool.not_eq_true'] at h
 rw [h.1] at HN
 rw [h.2] at HI
 obtain ⟨neg, hneg⟩ : ∃ z, fneg a = z := ⟨_, rfl⟩
 rw [hneg] at HM
 rw [hneg]
 obtain ⟨aa, haa⟩ : ∃ z : Int, (a : Int) = z := ⟨_, rfl⟩
 obtain ⟨y, hy⟩ : ∃ z : Int, aa / 4503599627370496 = z := ⟨_, rfl⟩
 obtain ⟨x, hx⟩ : ∃ z : Int, ((fexp a : Nat) : Int) = z := ⟨_, rfl⟩
 obtain ⟨f, hf⟩ : ∃ z : Int, ((a % 4503599627370496 : Nat) : Int) = z := ⟨_, rfl⟩
 have hx0 : fexp a < 2048 := Nat.mod_lt _ (by decide)
 have hand : bits .and .u64 y 2047 = x := by
  rw [← hy, ← haa, ← hx, show ((a : Int) / 4503599627370496) = ((a / 4503599627370496 : Nat) : Int) by omega, show (2047 : Int) = ((2047 : Nat) : Int) from rfl, u64_and_nat _ _ (by omega) (by decide), show (2047 : Nat) = 2 ^ 11 - 1 from rfl, Nat.and_two_pow_sub_one_eq_mod]
  try rfl
 have hfr : bits .and .u64 aa 4503599627370495 = f := by
  rw [← haa, ← hf, show (4503599627370495 : Int) = ((4503599627370495 : Nat) : Int) from rfl, u64_and_nat _ _ ha (by decide), show (4503599627370495 : Nat) = 2 ^ 52 - 1 from rfl, Nat.and_two_pow_sub_one_eq_mod]
  try rfl
 have hor : bits .or .u64 f 4503599627370496 = f + 4503599627370496 := by
  rw [← hf, show (4503599627370496 : Int) = ((4503599627370496 : Nat) : Int) from rfl, u64_or_nat _ _ (by omega) (by decide), Nat.or_comm, nat_join 52 _ _ (by decide) (by have : (2 : Nat) ^ 52 = 4503599627370496 := rfl; omega)]
  omega
 have hw1 : IntKind.i64.wrap x = x := i64w_id (by omega) (by omega)
 have hw1' : wrap64 x = x := i64_id (by omega) (by omega)
 rw [haa] at HN HI HM
 rw [haa]
 by_cases c : fexp a = 0
 ·have hm : ((fmant a : Nat) : Int) = f := by unfold fmant; rw [if_pos c, hf]
  have hp : fpow a = -1074 := by unfold fpow; rw [if_pos c]
  have c1 : x = 0 := by omega
  rw [hm] at HO
  rw [hp]
  have c2 : (x == 0) = true := by rw [c1]; rfl
  have c3 : decide (x = 0) = true := decide_eq_true c1
  clear hor hx hx0 hf hneg haa hm hp c ha h hml c1
  go_enter Tryz.func41, Tryz.ntmps41
  go_wp2_with (first | (go_at_call 96; (with_reducible refine (HN.out _).mono ?_); rintro e w' ⟨rfl, rfl⟩) | (go_at_call 97; (with_reducible refine (HI.out _).mono ?_); rintro e w' ⟨rfl, rfl⟩) | (go_at_call 98; (with_reducible refine (HM.out _).mono ?_); rintro e w' ⟨rfl, rfl⟩) | (go_at_call 42; (with_reducible refine (HO.out _).mono ?_); rintro e w' ⟨r, rfl, hr, hb⟩; have hr' := Aside0.mk hr; replace HB := bt_ HB hb; clear hb hr))
  refine bodyPost_ret (res_four rfl _ _ _) rfl ?_
  exact ⟨_, rfl, hr'.out, HB.out⟩
 ·obtain ⟨m, hm'⟩ : ∃ z : Int, f + 4503599627370496 = z := ⟨_, rfl⟩
  have hm : ((fmant a : Nat) : Int) = m := by unfold fmant; rw [if_neg c]; omega
  obtain ⟨e, he'⟩ : ∃ z : Int, x - 1075 = z := ⟨_, rfl⟩
  have hp : fpow a = e := by unfold fpow; rw [if_neg c]; omega
  rw [hm] at HO
  rw [hp]
  rw [hm'] at hor
  have c1 : ¬ x = 0 := by omega
  have c2 : (x == 0) = false := by rw [beq_eq_false_iff_ne]; exact c1
  have c3 : decide (x = 0) = false := decide_eq_false c1
  have hw2 : IntKind.i64.wrap (x - 1075) = e := by rw [i64w_id (by omega) (by omega)]; exact he'
  have hw2' : wrap64 (x - 1075) = e := by rw [i64_id (by omega) (by omega)]; exact he'
  clear hx hx0 hf hneg haa hm hp c ha h hml hm' he'
  go_enter Tryz.func41, Tryz.ntmps41
  go_wp2_with (first | (go_at_call 96; (with_reducible refine (HN.out _).mono ?_); rintro e w' ⟨rfl, rfl⟩) | (go_at_call 97; (with_reducible refine (HI.out _).mono ?_); rintro e w' ⟨rfl, rfl⟩) | (go_at_call 98; (with_reducible refine (HM.out _).mono ?_); rintro e w' ⟨rfl, rfl⟩) | (go_at_call 42; (with_reducible refine (HO.out _).mono ?_); rintro e w' ⟨r, rfl, hr, hb⟩; have hr' := Aside0.mk hr; replace HB := bt_ HB hb; clear hb hr))
  refine bodyPost_ret (res_four rfl _ _ _) rfl ?_
  exact ⟨_, rfl, hr'.out, HB.out⟩
theorem fit_ten {k : Nat} (h : k ≤ 1600) : Fit (10 ^ k) := fit_lt (ten_lt k) (by omega)
set_option maxRecDepth 100000 in
theorem r4_Power (w : World) (n : Int) (hn : n ≤ 1500) : Calls Tryz.prog 81 #[.int .i64 n] w fun e w' => ∃ r, e = .returned r ∧ Nm w' r (10 ^ n.toNat) ∧ Below w.heap.size w w' := by
 have HO : Aside0 (∀ w, Calls Tryz.prog 42 #[.int .u64 1] w fun e w' => ∃ r, e = .returned r ∧ Nm w' r 1 ∧ Below w.heap.size w w') := ⟨fun w => r_Of w 1 (by decide)⟩
 have HT : Aside0 (∀ w, Calls Tryz.prog 42 #[.int .u64 10] w fun e w' => ∃ r, e = .returned r ∧ Nm w' r 10 ∧ Below w.heap.size w w') := ⟨fun w => r_Of w 10 (by decide)⟩
 have HM := Aside0.mk (fun (i : Nat) (hi : i ≤ 1500) (w : World) (v u : Value) (h : Nm w v (10 ^ i)) (k : Nm w u 10) => r_Mul h k (fit_ten (by omega)) (fit_lt (b := 4) (by decide) (by omega)) (show Fit (10 ^ (i + 1)) from fit_ten (by omega)))
 have HB := Aside0.mk (Below.refl w.heap.size w)
 have HNN := Aside0.mk hn
 clear hn
 go_enter Tryz.func81, Tryz.ntmps81
 go_wp2_with (go_at_call 42; (with_reducible refine (HO.out _).mono ?_); rintro e w' ⟨r, rfl, hr, hb⟩; have hr' := Aside0.mk hr; replace HB := bt_ HB hb; clear hb hr)
 go_loopg [3, 4] n.toNat (fun kq v3 v4 wr => ∃ (i : Nat), v4 = .int .i64 (i : Int) ∧ Aside0 (i + kq = n.toNat) ∧ Aside0 (Nm wr v3 (10 ^ i)) ∧ Aside0 (Below w.heap.size w wr))
 case atStart => exact ⟨0, rfl, ⟨by omega⟩, hr', HB⟩
 case round =>
  clear HB hr'
  obtain ⟨i, rfl, HQ, HV, HB⟩ := hrel
  by_cases hlt : (i : Int) < n
  ·have c1 := decide_eq_true hlt
   obtain ⟨j, rfl⟩ : ∃ j, gk = j + 1 := ⟨gk - 1, by have := HQ.out; omega⟩
   have HQ2 := Aside0.mk (show i + 1 + j = n.toNat by have := HQ.out; omega)
   have q1 : wrap64 ((i : Int) + 1) = ((i + 1 : Nat) : Int) := by have := HNN.out; rw [i64_id (by omega) (by omega)]; omega
   have q2 : IntKind.i64.wrap ((i : Int) + 1) = ((i + 1 : Nat) : Int) := (i64_w _).trans q1
   have HMi := Aside0.mk (HM.out i (by have := HNN.out; omega))
   clear hlt
   go_wp2_with (first | (go_at_call 42; (with_reducible refine (HT.out _).mono ?_); rintro e w' ⟨r, rfl, hr, hb⟩; have hr2 := Aside0.mk hr; replace HV := Aside0.mk (HV.out.below hb); replace HB := bt_ HB hb; clear hb hr) | (go_at_call 80; (refine (HMi.out _ _ _ HV.out hr2.out).mono ?_); rintro e w' ⟨r3, rfl, hr, hb⟩; have hr3 := Aside0.mk hr; replace HB := bt_ HB hb; clear hb hr))
   go_roundg j
   case measure => omega
   case rel => exact ⟨i + 1, by first | rfl | (rw [q1]) | (rw [q2]), HQ2, ⟨by rw [Nat.pow_succ]; exact hr3.out⟩, HB⟩
  ·have c1 := decide_eq_false hlt
   have hi : i = n.toNat := by have := HQ.out; omega
   subst hi
   clear hlt
   go_wp2
   go_ret
   exact ⟨_, rfl, HV.out, HB.out⟩
end Go.Proofs.YtdoeigngpemcgaaGreatDoor.Dec
namespace Go.Flt
/-- a quotient, rounded to the nearest, of two the even one -/
def rndQ (L R : Nat) : Nat := if R < 2 * (L % R) ∨ (2 * (L % R) = R ∧ L / R % 2 = 1) then L / R + 1 else L / R
theorem near_rnd (m : Nat) (e k : Int) : nearN m e k = rndQ (lhs m e k) (rhs e k) := rfl
end Go.Flt
namespace Go.Proofs.YtdoeigngpemcgaaGreatDoor.Dec
open Go.RowKit Go.Flt Go.Proofs.YtdoeigngpemcgaaGreatDoor.Pure Go.Proofs.YtdoeigngpemcgaaGreatDoorW.PrintWords Go.Proofs.YtdoeigngpemcgaaGreatDoorW.PrintLast Go.Proofs.YtdoeigngpemcgaaGreatDoorW.PrintMore
set_option maxRecDepth 100000 in
theorem r4_ge (w : World) {v u : Value} {N D B : Nat} (hB : B ≤ 1100) (hv : Nm w v N) (hu : Nm w u D) (hN : N < 2 ^ B) (hD : D < 2 ^ B) (k : Int) (hk : -450 ≤ k) (hk2 : k ≤ 450) :
  Calls Tryz.prog 45 #[v, u, .int .i64 k] w fun x w' => x = .returned (.bool (decide (D * 10 ^ k.toNat ≤ N * 10 ^ (-k).toNat))) ∧ Below w.heap.size w w' := by
 obtain ⟨nk, hnk⟩ : ∃ z, -k = z := ⟨_, rfl⟩
 have T1 := Aside0.mk (fun w => r4_Power w k (by omega))
 have T2 := Aside0.mk (fun w => r4_Power w nk (by omega))
 have b1 := ten_lt k.toNat
 have b2 := ten_lt nk.toNat
 have d1 := mul_lt_pow hD b1
 have d2 := mul_lt_pow hN b2
 have fN : Fit N := fit_lt hN (by omega)
 have fD : Fit D := fit_lt hD (by omega)
 have f1 : Fit (D * 10 ^ k.toNat) := fit_lt d1 (by omega)
 have f2 : Fit (N * 10 ^ nk.toNat) := fit_lt d2 (by omega)
 have X1 := Aside0.mk (fun (w : World) (v u : Value) (h : Nm w v D) (g : Nm w u (10 ^ k.toNat)) => r_Mul h g fD (fit_lt b1 (by omega)) f1)
 have X2 := Aside0.mk (fun (w : World) (v u : Value) (h : Nm w v N) (g : Nm w u (10 ^ nk.toNat)) => r_Mul h g fN (fit_lt b2 (by omega)) f2)
 have CC := Aside0.mk (fun (w : World) (v u : Value) (h : Nm w v (N * 10 ^ nk.toNat)) (g : Nm w u (D * 10 ^ k.toNat)) => r_Compare h g f2 f1)
 rw [hnk]
 have w1 := (wrp (x := -k) (y := nk) (by omega)).out.1
 have w2 := (i64_w _).trans w1
 obtain ⟨p1, hp1⟩ : ∃ z, 10 ^ k.toNat = z := ⟨_, rfl⟩
 obtain ⟨p2, hp2⟩ : ∃ z, 10 ^ nk.toNat = z := ⟨_, rfl⟩
 have hone1 : k < 0 → p1 = 1 := fun h => by rw [← hp1, show k.toNat = 0 by omega]
 have hone2 : 0 ≤ k → p2 = 1 := fun h => by rw [← hp2, show nk.toNat = 0 by omega]
 rw [hp1] at T1 X1 CC ⊢
 rw [hp2] at T2 X2 CC ⊢
 obtain ⟨cc, hcc⟩ : ∃ z, Num.cmpN (N * p2) (D * p1) = z := ⟨_, rfl⟩
 have hres : decide (0 ≤ cc) = decide (D * p1 ≤ N * p2) := by
  rw [← hcc, decide_eq_decide]
  unfold Num.cmpN
  split
  ·omega
  ·split <;> omega
 rw [hcc] at CC
 obtain ⟨res, hrr⟩ : ∃ z, decide (D * p1 ≤ N * p2) = z := ⟨_, rfl⟩
 rw [hrr] at hres ⊢
 obtain ⟨L, hL⟩ : ∃ z, N * p2 = z := ⟨_, rfl⟩
 obtain ⟨R, hR⟩ : ∃ z, D * p1 = z := ⟨_, rfl⟩
 rw [hL] at CC X2
 rw [hR] at CC X1
 have HB := Aside0.mk (Below.refl w.heap.size w)
 have hv0 := Aside0.mk hv
 have hu0 := Aside0.mk hu
 by_cases c : 0 ≤ k
 ·have c1 := decide_eq_true c
  have h2 := hone2 c
  rw [h2, Nat.mul_one] at hL
  subst hL
  clear hv hu hN hD hk hk2 hnk b1 b2 d1 d2 fN fD f1 f2 hp1 hp2 hone1 hone2 hrr hcc hR h2 c
  go_enter Tryz.func45, Tryz.ntmps45
  go_wp2_with (first | (go_at_call 81; (with_reducible refine (T1.out _).mono ?_); rintro e w' ⟨r1, rfl, hr, hb⟩; have n0_ := Aside0.mk (below_step HB.out hb); have h1 := Aside0.mk hr; have k0_ := Aside0.mk (hv0.out.below hb); have k1_ := Aside0.mk (hu0.out.below hb); clear HB hb hr hv0 hu0; have HB := n0_; have hv0 := k0_; have hu0 := k1_; clear n0_ k0_ k1_) | (go_at_call 80; (with_reducible refine (X1.out _ _ _ hu0.out h1.out).mono ?_); rintro e w' ⟨r2, rfl, hr, hb⟩; have n0_ := Aside0.mk (below_step HB.out hb); have h2 := Aside0.mk hr; have k0_ := Aside0.mk (hv0.out.below hb); clear HB hb hr hv0; have HB := n0_; have hv0 := k0_; clear n0_ k0_) | (go_at_call 102; (with_reducible refine (CC.out _ _ _ hv0.out h2.out).mono ?_); rintro e w' ⟨rfl, hb⟩; have n0_ := Aside0.mk (below_step HB.out hb); have hr := 0; clear HB hb hr ; have HB := n0_; clear n0_))
  go_ret
  exact ⟨by first | rfl | rw [hres], HB.out⟩
 ·have c1 := decide_eq_false c
  have h2 := hone1 (by omega)
  rw [h2, Nat.mul_one] at hR
  subst hR
  clear hv hu hN hD hk hk2 hnk b1 b2 d1 d2 fN fD f1 f2 hp1 hp2 hone1 hone2 hrr hcc hL h2 c
  go_enter Tryz.func45, Tryz.ntmps45
  go_wp2_with (first | (go_at_call 81; (with_reducible refine (T2.out _).mono ?_); rintro e w' ⟨r1, rfl, hr, hb⟩; have n0_ := Aside0.mk (below_step HB.out hb); have h1 := Aside0.mk hr; have k0_ := Aside0.mk (hv0.out.below hb); have k1_ := Aside0.mk (hu0.out.below hb); clear HB hb hr hv0 hu0; have HB := n0_; have hv0 := k0_; have hu0 := k1_; clear n0_ k0_ k1_) | (go_at_call 80; (with_reducible refine (X2.out _ _ _ hv0.out h1.out).mono ?_); rintro e w' ⟨r2, rfl, hr, hb⟩; have n0_ := Aside0.mk (below_step HB.out hb); have h2 := Aside0.mk hr; have k0_ := Aside0.mk (hu0.out.below hb); clear HB hb hr hu0; have HB := n0_; have hu0 := k0_; clear n0_ k0_) | (go_at_call 102; (with_reducible refine (CC.out _ _ _ h2.out hu0.out).mono ?_); rintro e w' ⟨rfl, hb⟩; have n0_ := Aside0.mk (below_step HB.out hb); have hr := 0; clear HB hb hr ; have HB := n0_; clear n0_))
  go_ret
  exact ⟨by first | rfl | rw [hres], HB.out⟩
theorem low_par (q : Nat) : bits .and .u64 ((q % 18446744073709551616 : Nat) : Int) 1 = ((q % 2 : Nat) : Int) := by
 rw [show (1 : Int) = ((1 : Nat) : Int) from rfl, u64_and_nat _ _ (Nat.mod_lt _ (by decide)) (by decide), Nat.and_one_is_mod]
 omega
set_option maxRecDepth 100000 in
theorem r4_scaled (w : World) {v u : Value} {N D B : Nat} (hB : B ≤ 1100) (hv : Nm w v N) (hu : Nm w u D) (hN : N < 2 ^ B) (hD : D < 2 ^ B) (hD0 : 0 < D) (k : Int) (hk : -450 ≤ k) (hk2 : k ≤ 450) :
  Calls Tryz.prog 46 #[v, u, .int .i64 (-k)] w fun x w' => x = .returned (.string ⟨(Num.textN (rndQ (N * 10 ^ (-k).toNat) (D * 10 ^ k.toNat))).toArray⟩) ∧ Below w.heap.size w w' := by
 obtain ⟨nk, hnk⟩ : ∃ z, -k = z := ⟨_, rfl⟩
 have T1 := Aside0.mk (fun w => r4_Power w k (by omega))
 have T2 := Aside0.mk (fun w => r4_Power w nk (by omega))
 have b1 := ten_lt k.toNat
 have b2 := ten_lt nk.toNat
 have d1 := mul_lt_pow hD b1
 have d2 := mul_lt_pow hN b2
 have fN : Fit N := fit_lt hN (by omega)
 have fD : Fit D := fit_lt hD (by omega)
 have f1 : Fit (D * 10 ^ k.toNat) := fit_lt d1 (by omega)
 have f2 : Fit (N * 10 ^ nk.toNat) := fit_lt d2 (by omega)
 have X1 := Aside0.mk (fun (w : World) (v u : Value) (h : Nm w v D) (g : Nm w u (10 ^ k.toNat)) => r_Mul h g fD (fit_lt b1 (by omega)) f1)
 have X2 := Aside0.mk (fun (w : World) (v u : Value) (h : Nm w v N) (g : Nm w u (10 ^ nk.toNat)) => r_Mul h g fN (fit_lt b2 (by omega)) f2)
 rw [hnk]
 have w1 := (wrp (x := -nk) (y := k) (by omega)).out.1
 have w2 := (i64_w _).trans w1
 obtain ⟨p1, hp1⟩ : ∃ z, 10 ^ k.toNat = z := ⟨_, rfl⟩
 obtain ⟨p2, hp2⟩ : ∃ z, 10 ^ nk.toNat = z := ⟨_, rfl⟩
 have hone1 : k ≤ 0 → p1 = 1 := fun h => by rw [← hp1, show k.toNat = 0 by omega]
 have hone2 : 0 ≤ k → p2 = 1 := fun h => by rw [← hp2, show nk.toNat = 0 by omega]
 have hp1p : 0 < p1 := by rw [← hp1]; exact Nat.pow_pos (by decide)
 rw [hp1] at T1 X1 d1 f1 ⊢
 rw [hp2] at T2 X2 d2 f2 ⊢
 obtain ⟨L, hL⟩ : ∃ z, N * p2 = z := ⟨_, rfl⟩
 obtain ⟨R, hR⟩ : ∃ z, D * p1 = z := ⟨_, rfl⟩
 have hpos : 0 < R := by rw [← hR]; exact Nat.mul_pos hD0 hp1p
 rw [hL] at X2 d2 f2 ⊢
 rw [hR] at X1 d1 f1 ⊢
 have hN : rndQ L R = if R < 2 * (L % R) ∨ (2 * (L % R) = R ∧ L / R % 2 = 1) then L / R + 1 else L / R := rfl
 have f3 : Fit (R * 4294967296) := by
  have h : R * 4294967296 < 2 ^ (B + (4 * k.toNat + 1)) * 2 ^ 32 := Nat.mul_lt_mul_of_pos_right d1 (by decide)
  rw [← Nat.pow_add] at h
  exact fit_lt h (by omega)
 have DD := Aside0.mk (fun (w : World) (v u : Value) (h : Nm w v L) (g : Nm w u R) => r_Divide h g f2 f3 (Nat.ne_of_gt hpos))
 obtain ⟨Q, hQ⟩ : ∃ z, L / R = z := ⟨_, rfl⟩
 obtain ⟨r, hr⟩ : ∃ z, L % R = z := ⟨_, rfl⟩
 have hrl : r < R := by rw [← hr]; exact Nat.mod_lt _ hpos
 have hql : Q ≤ L := by rw [← hQ]; exact Nat.div_le_self _ _
 rw [hQ, hr] at DD hN
 have fq : Fit Q := fit_le f2 hql
 have fr : Fit r := fit_le f1 (by omega)
 have fr2 : Fit (r + r) := fit_le f3 (by omega)
 have fq1 : Fit (Q + 1) := by
  have h : Q + 1 < 2 ^ (B + (4 * nk.toNat + 1) + 1) := by
   have := Nat.two_pow_pos (B + (4 * nk.toNat + 1))
   rw [Nat.pow_succ]; omega
  exact fit_lt h (by omega)
 have A1 := Aside0.mk (fun (w : World) (v : Value) (h : Nm w v r) => r_Add h h fr fr)
 have CC := Aside0.mk (fun (w : World) (v u : Value) (h : Nm w v (r + r)) (g : Nm w u R) => r_Compare h g fr2 f1)
 have A2 := Aside0.mk (fun (w : World) (v u : Value) (h : Nm w v Q) (g : Nm w u 1) => r_Add h g fq (fit_lt (b := 1) (by decide) (by omega)))
 have LW := Aside0.mk (fun (w : World) (v : Value) (h : Nm w v Q) => r_Low h fq)
 have HO : Aside0 (∀ w, Calls Tryz.prog 42 #[.int .u64 1] w fun e w' => ∃ r, e = .returned r ∧ Nm w' r 1 ∧ Below w.heap.size w w') := ⟨fun w => r_Of w 1 (by decide)⟩
 have TX0 := Aside0.mk (fun (w : World) (v : Value) (h : Nm w v Q) => r_Text h fq)
 have TX1 := Aside0.mk (fun (w : World) (v : Value) (h : Nm w v (Q + 1)) => r_Text h fq1)
 obtain ⟨cc, hcc⟩ : ∃ z, Num.cmpN (r + r) R = z := ⟨_, rfl⟩
 have hcc3 : (R < 2 * r ∧ cc = 1) ∨ (2 * r = R ∧ cc = 0) ∨ (2 * r < R ∧ cc = -1) := by
  rw [← hcc]
  unfold Num.cmpN
  split
  ·omega
  ·split <;> omega
 rw [hcc] at CC
 have hpar := low_par Q
 obtain ⟨lq, hlq⟩ : ∃ z : Int, ((Q % 18446744073709551616 : Nat) : Int) = z := ⟨_, rfl⟩
 rw [hlq] at hpar LW
 have hup : (R < 2 * r ∨ (2 * r = R ∧ Q % 2 = 1)) → rndQ L R = Q + 1 := fun h => by rw [hN, if_pos h]
 have hno : ¬ (R < 2 * r ∨ (2 * r = R ∧ Q % 2 = 1)) → rndQ L R = Q := fun h => by rw [hN, if_neg h]
 have HB := Aside0.mk (Below.refl w.heap.size w)
 have hv0 := Aside0.mk hv
 have hu0 := Aside0.mk hu
 have hko : (0 ≤ nk ∧ R = D) ∨ (nk < 0 ∧ L = N) := by
  rcases Int.lt_or_le nk 0 with c | c
  ·exact .inr ⟨c, by rw [← hL, hone2 (by omega), Nat.mul_one]⟩
  ·exact .inl ⟨c, by rw [← hR, hone1 (by omega), Nat.mul_one]⟩
 obtain ⟨rq, hrq⟩ : ∃ z, rndQ L R = z := ⟨_, rfl⟩
 rw [hrq] at hup hno ⊢
 clear hv hu hD hk hk2 hnk b1 b2 d1 d2 fN fD f1 f2 f3 hp1 hp2 hone1 hone2 hcc hN hQ hr hql fq fr fr2 fq1 hrl hL hR hpos hp1p hD0 hlq hrq
 rcases hko with ⟨c, hRD⟩ | ⟨c, hLN⟩
 ·have c1 := decide_eq_true c
  subst hRD
  clear c
  go_enter Tryz.func46, Tryz.ntmps46
  go_upto_region 4 with (first | (go_at_call 81; (with_reducible refine (T2.out _).mono ?_); rintro e w' ⟨r1, rfl, hr, hb⟩; have n0_ := Aside0.mk (below_step HB.out hb); have h1 := Aside0.mk hr; have k0_ := Aside0.mk (hv0.out.below hb); have k1_ := Aside0.mk (hu0.out.below hb); clear HB hb hr hv0 hu0; have HB := n0_; have hv0 := k0_; have hu0 := k1_; clear n0_ k0_ k1_) | (go_at_call 80; (with_reducible refine (X2.out _ _ _ hv0.out h1.out).mono ?_); rintro e w' ⟨r2, rfl, hr, hb⟩; have n0_ := Aside0.mk (below_step HB.out hb); have h2 := Aside0.mk hr; have k0_ := Aside0.mk (hu0.out.below hb); clear HB hb hr hu0; have HB := n0_; have hu0 := k0_; clear n0_ k0_))
  go_upto_region 6 with (first | (go_at_call 103; (with_reducible refine (DD.out _ _ _ h2.out hu0.out).mono ?_); rintro e w' ⟨rq, rr, rfl, hr, hr2, hb⟩; have n0_ := Aside0.mk (below_step HB.out hb); have hq := Aside0.mk hr; have hrm := Aside0.mk hr2; clear hr2; have k0_ := Aside0.mk (hu0.out.below hb); clear HB hb hr hu0; have HB := n0_; have hu0 := k0_; clear n0_ k0_) | (go_at_call 104; (with_reducible refine (A1.out _ _ hrm.out).mono ?_); rintro e w' ⟨r3, rfl, hr, hb⟩; have n0_ := Aside0.mk (below_step HB.out hb); have hrr := Aside0.mk hr; have k0_ := Aside0.mk (hq.out.below hb); have k1_ := Aside0.mk (hu0.out.below hb); clear HB hb hr hq hu0; have HB := n0_; have hq := k0_; have hu0 := k1_; clear n0_ k0_ k1_) | (go_at_call 102; (with_reducible refine (CC.out _ _ _ hrr.out hu0.out).mono ?_); rintro e w' ⟨rfl, hb⟩; have n0_ := Aside0.mk (below_step HB.out hb); have hr := 0; have k0_ := Aside0.mk (hq.out.below hb); clear HB hb hr hq; have HB := n0_; have hq := k0_; clear n0_ k0_) | (go_at_call 105; (with_reducible refine (LW.out _ _ hq.out).mono ?_); rintro e w' ⟨rfl, hw⟩; obtain rfl := hw.symm))
  rcases hcc3 with ⟨hc1, hc2⟩ | ⟨hc1, hc2⟩ | ⟨hc1, hc2⟩
  ·have hb := hup (by omega)
   subst hc2
   clear hup hno hc1
   subst hb
   go_wp2_with (first | (go_at_call 105; (with_reducible refine (LW.out _ _ hq.out).mono ?_); rintro e w' ⟨rfl, hw⟩; obtain rfl := hw.symm) | (go_at_call 42; (with_reducible refine (HO.out _).mono ?_); rintro e w' ⟨r5, rfl, hr, hb⟩; have n0_ := Aside0.mk (below_step HB.out hb); have h1 := Aside0.mk hr; have k0_ := Aside0.mk (hq.out.below hb); clear HB hb hr hq; have HB := n0_; have hq := k0_; clear n0_ k0_) | (go_at_call 104; (with_reducible refine (A2.out _ _ _ hq.out h1.out).mono ?_); rintro e w' ⟨r6, rfl, hr, hb⟩; have n0_ := Aside0.mk (below_step HB.out hb); have hq1 := Aside0.mk hr; clear HB hb hr ; have HB := n0_; clear n0_) | (go_at_call 47; (with_reducible refine (TX1.out _ _ hq1.out).mono ?_); rintro e w' ⟨rfl, hb⟩; have n0_ := Aside0.mk (below_step HB.out hb); have hr := 0; clear HB hb hr ; have HB := n0_; clear n0_))
   go_ret
   exact ⟨rfl, HB.out⟩
  ·rcases Nat.mod_two_eq_zero_or_one Q with hq2 | hq2
   ·have hb := hno (by omega)
    rw [hq2] at hpar
    subst hc2
    clear hup hno hc1 hq2
    subst hb
    go_wp2_with (first | (go_at_call 105; (with_reducible refine (LW.out _ _ hq.out).mono ?_); rintro e w' ⟨rfl, hw⟩; obtain rfl := hw.symm) | (go_at_call 47; (with_reducible refine (TX0.out _ _ hq.out).mono ?_); rintro e w' ⟨rfl, hb⟩; have n0_ := Aside0.mk (below_step HB.out hb); have hr := 0; clear HB hb hr ; have HB := n0_; clear n0_))
    go_ret
    exact ⟨rfl, HB.out⟩
   ·have hb := hup (by omega)
    rw [hq2] at hpar
    subst hc2
    clear hup hno hc1 hq2
    subst hb
    go_wp2_with (first | (go_at_call 105; (with_reducible refine (LW.out _ _ hq.out).mono ?_); rintro e w' ⟨rfl, hw⟩; obtain rfl := hw.symm) | (go_at_call 42; (with_reducible refine (HO.out _).mono ?_); rintro e w' ⟨r5, rfl, hr, hb⟩; have n0_ := Aside0.mk (below_step HB.out hb); have h1 := Aside0.mk hr; have k0_ := Aside0.mk (hq.out.below hb); clear HB hb hr hq; have HB := n0_; have hq := k0_; clear n0_ k0_) | (go_at_call 104; (with_reducible refine (A2.out _ _ _ hq.out h1.out).mono ?_); rintro e w' ⟨r6, rfl, hr, hb⟩; have n0_ := Aside0.mk (below_step HB.out hb); have hq1 := Aside0.mk hr; clear HB hb hr ; have HB := n0_; clear n0_) | (go_at_call 47; (with_reducible refine (TX1.out _ _ hq1.out).mono ?_); rintro e w' ⟨rfl, hb⟩; have n0_ := Aside0.mk (below_step HB.out hb); have hr := 0; clear HB hb hr ; have HB := n0_; clear n0_))
    go_ret
    exact ⟨rfl, HB.out⟩
  ·have hb := hno (by omega)
   subst hc2
   clear hup hno hc1
   subst hb
   go_wp2_with (first | (go_at_call 105; (with_reducible refine (LW.out _ _ hq.out).mono ?_); rintro e w' ⟨rfl, hw⟩; obtain rfl := hw.symm) | (go_at_call 47; (with_reducible refine (TX0.out _ _ hq.out).mono ?_); rintro e w' ⟨rfl, hb⟩; have n0_ := Aside0.mk (below_step HB.out hb); have hr := 0; clear HB hb hr ; have HB := n0_; clear n0_))
   go_ret
   exact ⟨rfl, HB.out⟩
 ·have c1 := decide_eq_false (show ¬ 0 ≤ nk by omega)
  subst hLN
  clear c
  go_enter Tryz.func46, Tryz.ntmps46
  go_upto_region 4 with (first | (go_at_call 81; (with_reducible refine (T1.out _).mono ?_); rintro e w' ⟨r1, rfl, hr, hb⟩; have n0_ := Aside0.mk (below_step HB.out hb); have h1 := Aside0.mk hr; have k0_ := Aside0.mk (hv0.out.below hb); have k1_ := Aside0.mk (hu0.out.below hb); clear HB hb hr hv0 hu0; have HB := n0_; have hv0 := k0_; have hu0 := k1_; clear n0_ k0_ k1_) | (go_at_call 80; (with_reducible refine (X1.out _ _ _ hu0.out h1.out).mono ?_); rintro e w' ⟨r2, rfl, hr, hb⟩; have n0_ := Aside0.mk (below_step HB.out hb); have h2 := Aside0.mk hr; have k0_ := Aside0.mk (hv0.out.below hb); clear HB hb hr hv0; have HB := n0_; have hv0 := k0_; clear n0_ k0_))
  go_upto_region 6 with (first | (go_at_call 103; (with_reducible refine (DD.out _ _ _ hv0.out h2.out).mono ?_); rintro e w' ⟨rq, rr, rfl, hr, hr2, hb⟩; have n0_ := Aside0.mk (below_step HB.out hb); have hq := Aside0.mk hr; have hrm := Aside0.mk hr2; clear hr2; have k0_ := Aside0.mk (h2.out.below hb); clear HB hb hr h2; have HB := n0_; have h2 := k0_; clear n0_ k0_) | (go_at_call 104; (with_reducible refine (A1.out _ _ hrm.out).mono ?_); rintro e w' ⟨r3, rfl, hr, hb⟩; have n0_ := Aside0.mk (below_step HB.out hb); have hrr := Aside0.mk hr; have k0_ := Aside0.mk (hq.out.below hb); have k1_ := Aside0.mk (h2.out.below hb); clear HB hb hr hq h2; have HB := n0_; have hq := k0_; have h2 := k1_; clear n0_ k0_ k1_) | (go_at_call 102; (with_reducible refine (CC.out _ _ _ hrr.out h2.out).mono ?_); rintro e w' ⟨rfl, hb⟩; have n0_ := Aside0.mk (below_step HB.out hb); have hr := 0; have k0_ := Aside0.mk (hq.out.below hb); clear HB hb hr hq; have HB := n0_; have hq := k0_; clear n0_ k0_) | (go_at_call 105; (with_reducible refine (LW.out _ _ hq.out).mono ?_); rintro e w' ⟨rfl, hw⟩; obtain rfl := hw.symm))
  rcases hcc3 with ⟨hc1, hc2⟩ | ⟨hc1, hc2⟩ | ⟨hc1, hc2⟩
  ·have hb := hup (by omega)
   subst hc2
   clear hup hno hc1
   subst hb
   go_wp2_with (first | (go_at_call 105; (with_reducible refine (LW.out _ _ hq.out).mono ?_); rintro e w' ⟨rfl, hw⟩; obtain rfl := hw.symm) | (go_at_call 42; (with_reducible refine (HO.out _).mono ?_); rintro e w' ⟨r5, rfl, hr, hb⟩; have n0_ := Aside0.mk (below_step HB.out hb); have h1 := Aside0.mk hr; have k0_ := Aside0.mk (hq.out.below hb); clear HB hb hr hq; have HB := n0_; have hq := k0_; clear n0_ k0_) | (go_at_call 104; (with_reducible refine (A2.out _ _ _ hq.out h1.out).mono ?_); rintro e w' ⟨r6, rfl, hr, hb⟩; have n0_ := Aside0.mk (below_step HB.out hb); have hq1 := Aside0.mk hr; clear HB hb hr ; have HB := n0_; clear n0_) | (go_at_call 47; (with_reducible refine (TX1.out _ _ hq1.out).mono ?_); rintro e w' ⟨rfl, hb⟩; have n0_ := Aside0.mk (below_step HB.out hb); have hr := 0; clear HB hb hr ; have HB := n0_; clear n0_))
   go_ret
   exact ⟨rfl, HB.out⟩
  ·rcases Nat.mod_two_eq_zero_or_one Q with hq2 | hq2
   ·have hb := hno (by omega)
    rw [hq2] at hpar
    subst hc2
    clear hup hno hc1 hq2
    subst hb
    go_wp2_with (first | (go_at_call 105; (with_reducible refine (LW.out _ _ hq.out).mono ?_); rintro e w' ⟨rfl, hw⟩; obtain rfl := hw.symm) | (go_at_call 47; (with_reducible refine (TX0.out _ _ hq.out).mono ?_); rintro e w' ⟨rfl, hb⟩; have n0_ := Aside0.mk (below_step HB.out hb); have hr := 0; clear HB hb hr ; have HB := n0_; clear n0_))
    go_ret
    exact ⟨rfl, HB.out⟩
   ·have hb := hup (by omega)
    rw [hq2] at hpar
    subst hc2
    clear hup hno hc1 hq2
    subst hb
    go_wp2_with (first | (go_at_call 105; (with_reducible refine (LW.out _ _ hq.out).mono ?_); rintro e w' ⟨rfl, hw⟩; obtain rfl := hw.symm) | (go_at_call 42; (with_reducible refine (HO.out _).mono ?_); rintro e w' ⟨r5, rfl, hr, hb⟩; have n0_ := Aside0.mk (below_step HB.out hb); have h1 := Aside0.mk hr; have k0_ := Aside0.mk (hq.out.below hb); clear HB hb hr hq; have HB := n0_; have hq := k0_; clear n0_ k0_) | (go_at_call 104; (with_reducible refine (A2.out _ _ _ hq.out h1.out).mono ?_); rintro e w' ⟨r6, rfl, hr, hb⟩; have n0_ := Aside0.mk (below_step HB.out hb); have hq1 := Aside0.mk hr; clear HB hb hr ; have HB := n0_; clear n0_) | (go_at_call 47; (with_reducible refine (TX1.out _ _ hq1.out).mono ?_); rintro e w' ⟨rfl, hb⟩; have n0_ := Aside0.mk (below_step HB.out hb); have hr := 0; clear HB hb hr ; have HB := n0_; clear n0_))
    go_ret
    exact ⟨rfl, HB.out⟩
  ·have hb := hno (by omega)
   subst hc2
   clear hup hno hc1
   subst hb
   go_wp2_with (first | (go_at_call 105; (with_reducible refine (LW.out _ _ hq.out).mono ?_); rintro e w' ⟨rfl, hw⟩; obtain rfl := hw.symm) | (go_at_call 47; (with_reducible refine (TX0.out _ _ hq.out).mono ?_); rintro e w' ⟨rfl, hb⟩; have n0_ := Aside0.mk (below_step HB.out hb); have hr := 0; clear HB hb hr ; have HB := n0_; clear n0_))
   go_ret
   exact ⟨rfl, HB.out⟩
end Go.Proofs.YtdoeigngpemcgaaGreatDoor.Dec
namespace Go.Flt
open Go.Num
theorem two_ten (k : Nat) : 2 ^ (3 * k) ≤ 10 ^ k := by
 rw [Nat.pow_mul]
 exact Nat.pow_le_pow_left (by decide) k
theorem bits_le_of {m b : Nat} (h : m < 2 ^ b) : bitsN m ≤ b := by
 rcases Nat.eq_zero_or_pos m with z | z
 ·subst z; rw [bitsN_zero]; omega
 ·rcases Nat.lt_or_ge b (bitsN m) with q | q
  ·exfalso
   have h1 := bitsN_le z
   have h3 : 2 ^ b ≤ 2 ^ (bitsN m - 1) := Nat.pow_le_pow_right (by decide) (by omega)
   omega
  ·exact q
theorem bits_gt_of {m b : Nat} (h : 2 ^ b ≤ m) : b < bitsN m := by
 rcases Nat.lt_or_ge b (bitsN m) with q | q
 ·exact q
 ·have h1 := bitsN_lt m
  have h3 : 2 ^ bitsN m ≤ 2 ^ b := Nat.pow_le_pow_right (by decide) q
  omega
theorem fl_small {p q t : Nat} (hq : 0 < q) (h : p * 2 ^ t ≤ q) (ht : 1100 ≤ t) : fl p q = 0 := by
 rcases Nat.eq_zero_or_pos p with z | hp
 ·subst z; exact fl_zero q
 obtain ⟨k, hk⟩ : ∃ k, k = bitsN q + 53 + t := ⟨_, rfl⟩
 rw [← fl_at hp hq k (by omega)]
 apply mkN_small
 have h1 : p * 2 ^ k ≤ q * 2 ^ (k - t) := by
  rw [show k = t + (k - t) by omega, Nat.pow_add, ← Nat.mul_assoc, show t + (k - t) - t = k - t by omega]
  exact Nat.mul_le_mul_right _ h
 have h2 : p * 2 ^ k / q ≤ 2 ^ (k - t) := by
  have := Nat.div_le_div_right (c := q) h1
  rw [Nat.mul_div_cancel_left _ hq] at this
  exact this
 have h3 : sq (p * 2 ^ k) q < 2 ^ (k - t + 2) := by
  have := Nat.two_pow_pos (k - t)
  rw [Nat.pow_add]
  unfold sq
  split <;> omega
 have := bits_le_of h3
 omega
theorem mkN_huge {v t : Nat} (h : 2 ^ t ≤ v) (ht : 1030 ≤ t) : mkN v 0 = 9218868437227405312 := by
 have h1 := bits_gt_of h
 have := Nat.two_pow_pos t
 apply mkN_big (by omega)
 unfold expo
 omega
/-- far below -/
theorem flt_low {m k : Nat} {e : Int} (he : e < 0) (hk : 400 ≤ k) (h : m * 10 ^ k ≤ 10 ^ (-e).toNat) : flt m e = 0 := by
 unfold flt
 split
 ·rfl
 ·rw [if_neg (by omega)]
  refine fl_small (t := 3 * k) (Nat.pow_pos (by decide)) (Nat.le_trans (Nat.mul_le_mul_left _ (two_ten k)) h) (by omega)
/-- far above -/
theorem flt_high {m k : Nat} {e : Int} (he : 0 ≤ e) (hk : 400 ≤ k) (h : 10 ^ k ≤ m * 10 ^ e.toNat) : flt m e = 9218868437227405312 := by
 have hp := Nat.two_pow_pos (3 * k)
 have h1 := Nat.le_trans (two_ten k) h
 unfold flt
 rw [if_neg (by rintro rfl; rw [Nat.zero_mul] at h1; omega), if_pos he, fl_one (by omega)]
 exact mkN_huge h1 (by omega)
theorem flt_nil (e : Int) : flt 0 e = 0 := by
 unfold flt
 rw [if_pos rfl]
end Go.Flt
namespace Go.Flt
open Go.Proofs.YtdoeigngpemcgaaGreatDoor
theorem rch_pred {m : Nat} {e k : Int} (h : rch m e k = true) : rch m e (k - 1) = true := by
 unfold rch at *
 rw [decide_eq_true_iff] at *
 unfold lhs rhs at *
 rcases Int.lt_or_le 0 k with c | c
 ·obtain ⟨j, hj⟩ : ∃ j, k.toNat = j + 1 := ⟨k.toNat - 1, by omega⟩
  rw [show (k - 1).toNat = j by omega, show (-(k - 1)).toNat = (-k).toNat by omega]
  rw [hj, Nat.pow_succ, Nat.mul_right_comm] at h
  have h0 : 10 ^ j * 2 ^ (-e).toNat * 1 ≤ 10 ^ j * 2 ^ (-e).toNat * 10 := Nat.mul_le_mul_left _ (by decide)
  omega
 ·rw [show (k - 1).toNat = 0 by omega, show (-(k - 1)).toNat = (-k).toNat + 1 by omega, Nat.pow_succ, ← Nat.mul_assoc, Nat.mul_right_comm _ 10]
  rw [show k.toNat = 0 by omega] at h
  have h0 : m * 10 ^ (-k).toNat * 2 ^ e.toNat * 1 ≤ m * 10 ^ (-k).toNat * 2 ^ e.toNat * 10 := Nat.mul_le_mul_left _ (by decide)
  omega
theorem rch_le {m : Nat} {e j k : Int} (h : rch m e k = true) (hj : j ≤ k) : rch m e j = true := by
 obtain ⟨n, hn⟩ : ∃ n : Nat, k = j + n := ⟨(k - j).toNat, by omega⟩
 subst hn
 clear hj
 induction n with
 | zero => simpa using h
 | succ n ih =>
  apply ih
  have := rch_pred h
  rw [show j + ((n + 1 : Nat) : Int) - 1 = j + (n : Int) by omega] at this
  exact this
/-- D is how many digits stand ahead of the point -/
def Dex (m : Nat) (e D : Int) : Prop := rch m e (D - 1) = true ∧ rch m e D = false
theorem Dex.lt {m : Nat} {e D x : Int} (h : Dex m e D) (k : rch m e x = true) : x < D := by
 rcases Int.lt_or_le x D with c | c
 ·exact c
 ·have := rch_le k c
  rw [h.2] at this
  cases this
theorem Dex.ge {m : Nat} {e D x : Int} (h : Dex m e D) (k : rch m e x = false) : D ≤ x := by
 rcases Int.lt_or_le x D with c | c
 ·have := rch_le h.1 (show x ≤ D - 1 by omega)
  rw [k] at this
  cases this
 ·exact c
theorem rch_low {m : Nat} {e : Int} (hm : 0 < m) (he : -1074 ≤ e) : rch m e (-336) = true := by
 unfold rch lhs rhs
 rw [decide_eq_true_iff, show (-336 : Int).toNat = 0 from rfl, Nat.pow_zero, Nat.one_mul, show (-(-336) : Int).toNat = 336 from rfl]
 obtain ⟨K, hK⟩ : ∃ K, K = 336 := ⟨_, rfl⟩
 obtain ⟨t, ht⟩ : ∃ t, t = 12 := ⟨_, rfl⟩
 rw [← hK]
 have h2 : 2 ^ (-e).toNat ≤ 10 ^ K := by
  refine Nat.le_trans (Nat.pow_le_pow_right (by decide) (show (-e).toNat ≤ 93 * t by omega)) ?_
  rw [Nat.pow_mul, show K = 28 * t by omega, Nat.pow_mul]
  exact Nat.pow_le_pow_left (by decide) t
 have h3 : 1 * 10 ^ K ≤ m * 10 ^ K := Nat.mul_le_mul_right _ hm
 have h4 : m * 10 ^ K * 1 ≤ m * 10 ^ K * 2 ^ e.toNat := Nat.mul_le_mul_left _ (Nat.two_pow_pos _)
 omega
theorem rch_high {m : Nat} {e : Int} (hm : m < 2 ^ 53) (he : e ≤ 971) : rch m e 342 = false := by
 unfold rch lhs rhs
 rw [decide_eq_false_iff_not, show (342 : Int).toNat = 342 from rfl, show (-342 : Int).toNat = 0 from rfl, Nat.pow_zero, Nat.mul_one]
 obtain ⟨K, hK⟩ : ∃ K, K = 342 := ⟨_, rfl⟩
 rw [← hK]
 have h1 : m * 2 ^ e.toNat < 2 ^ 53 * 2 ^ e.toNat := Nat.mul_lt_mul_of_pos_right hm (Nat.two_pow_pos _)
 rw [← Nat.pow_add] at h1
 have h2 : 2 ^ (53 + e.toNat) ≤ 2 ^ (3 * K) := Nat.pow_le_pow_right (by decide) (by omega)
 have h3 := two_ten K
 have h4 : 10 ^ K * 1 ≤ 10 ^ K * 2 ^ (-e).toNat := Nat.mul_le_mul_left _ (Nat.two_pow_pos _)
 omega
theorem Dex.some {m : Nat} {e : Int} (hm : 0 < m) (hm2 : m < 2 ^ 53) (he : -1074 ≤ e) (he2 : e ≤ 971) : ∃ D, Dex m e D ∧ -335 ≤ D ∧ D ≤ 342 := by
 have key : ∀ n : Nat, rch m e (-336 + n) = false → ∃ D, Dex m e D ∧ -335 ≤ D ∧ D ≤ -336 + n := by
  intro n
  induction n with
  | zero =>
   intro h
   have := rch_low hm he
   simp at h
   rw [h] at this
   cases this
  | succ n ih =>
   intro h
   cases c : rch m e (-336 + n) with
   | true =>
    refine ⟨-336 + ((n + 1 : Nat) : Int), ⟨?_, h⟩, by omega, by omega⟩
    rw [show -336 + ((n + 1 : Nat) : Int) - 1 = -336 + (n : Int) by omega]
    exact c
   | false =>
    obtain ⟨D, hD, h1, h2⟩ := ih c
    exact ⟨D, hD, h1, by omega⟩
 obtain ⟨D, hD, h1, h2⟩ := key 678 (rch_high hm2 he2)
 exact ⟨D, hD, h1, by omega⟩
theorem Dex.bound {m : Nat} {e D : Int} (h : Dex m e D) (hm : 0 < m) (hm2 : m < 2 ^ 53) (he : -1074 ≤ e) (he2 : e ≤ 971) : -335 ≤ D ∧ D ≤ 342 := by
 have h1 := h.lt (rch_low hm he)
 have h2 := h.ge (rch_high hm2 he2)
 omega
/-- the digits and the exponent that are shown -/
def repT (m : Nat) (e n D : Int) : List UInt8 := (Num.textN (nearN m e (D - n))).take n.toNat
def repX (m : Nat) (e n D : Int) : Int := if n < (Num.textN (nearN m e (D - n))).length then D + 1 else D
end Go.Flt
namespace Go.Proofs.YtdoeigngpemcgaaGreatDoor.Dec
open Go.RowKit Go.Flt Go.Read Go.Proofs.YtdoeigngpemcgaaGreatDoor.Pure Go.Proofs.YtdoeigngpemcgaaGreatDoorW.PrintWords Go.Proofs.YtdoeigngpemcgaaGreatDoorW.PrintLast Go.Proofs.YtdoeigngpemcgaaGreatDoorW.PrintMore
theorem res_row_tmp {P : Program} {fn : Func} {p u : Tmp} {ty : TypeId} (h : fn.results = #[.cell p ty, .tmp u]) (tmps : Array Value) (w : World) (g : Nat) (t : TypeId) (cs : Array Value) (fr : Nat × Nat) (d : TypeDesc)
  (hp : tmps.getD p undef = .pointer (some ⟨g, 0, none⟩)) (hg : w.heap[g]? = some (.cells cs t fr))
  (hu : P.underlying ty = some d) (hd : (match d with | .struct _ | .array _ _ => true | _ => false) = true) (hi : (P.info? ty).map (·.size) = some cs.size) :
  (results fn tmps).run P w = .ok (.tuple #[.agg cs, tmps.getD u undef]) w := by
 have hp' : tmps[p]?.getD undef = .pointer (some ⟨g, 0, none⟩) := by simpa using hp
 rw [results_cell_tmp h]
 simp [hp', asAddr, run_loadVar_row w g t ty cs fr d hg hu hd hi, Result.andThen]
theorem fmant_lt (a : Nat) : fmant a < 2 ^ 53 := by
 unfold fmant
 split <;> omega
theorem fpow_bound (a : Nat) (h : ffin a = true) : -1074 ≤ fpow a ∧ fpow a ≤ 971 := by
 unfold ffin at h
 rw [decide_eq_true_iff] at h
 unfold fpow fexp
 split <;> omega
theorem s_Split_any (w : World) (a : Nat) (ha : a < 18446744073709551616) : Calls Tryz.prog 36 #[.int .u64 (a : Int)] w fun e w' => ∃ neg v p, e = .returned (.tuple #[.bool neg, v, .int .i64 p, .bool (ffin a)]) ∧ Below w.heap.size w w' := by
 cases h : ffin a with
 | true =>
  refine (s_Split_good w a ha h).mono ?_
  rintro e w' ⟨v, rfl, -, hb⟩
  exact ⟨_, _, _, rfl, hb⟩
 | false =>
  refine (s_Split_bad w a ha h).mono ?_
  rintro e w' ⟨rfl, hb⟩
  exact ⟨_, _, _, rfl, hb⟩
set_option maxRecDepth 100000 in
theorem d_Rep_bad (w : World) (a : Nat) (ha : a < 18446744073709551616) (n : Int) (h : n < 1 ∨ 40 < n ∨ ffin a = false) : Calls Tryz.prog 13 #[.int .u64 (a : Int), .int .i64 n] w fun e w' => e = .returned (.tuple #[.agg #[.string ⟨#[]⟩, .int .i64 0, .bool false], .int .i64 1]) ∧ Below w.heap.size w w' := by
 have HS := Aside0.mk (fun w => s_Split_any w a ha)
 obtain ⟨aa, haa⟩ : ∃ z : Int, (a : Int) = z := ⟨_, rfl⟩
 obtain ⟨fin, hfin⟩ : ∃ z, ffin a = z := ⟨_, rfl⟩
 rw [haa, hfin] at HS
 rw [hfin] at h
 rw [haa]
 clear ha haa hfin
 by_cases c1 : n < 1
 ·have d1 := decide_eq_true c1
  clear h c1
  go_enter Tryz.func13, Tryz.ntmps13
  go_upto_region 1 with (fail)
  obtain ⟨g, hg⟩ : ∃ g, w.heap.size = g := ⟨_, rfl⟩
  generalize hW : w.alloc _ = W1
  have BK := Aside0.mk (show W1.heap[g]? = some (.cells #[.string ⟨#[]⟩, .int .i64 0, .bool false] 28 (0, 0)) by rw [← hW, ← hg]; exact blk_new _ _)
  have HB := Aside0.mk (show Below w.heap.size w W1 by rw [← hW]; exact below_alloc (Below.refl _ _) _)
  have GE := Aside0.mk (show w.heap.size ≤ g by omega)
  clear hW
  rw [hg]
  clear hg
  go_wp2_with ((go_at_call 36; (with_reducible refine (HS.out _).mono ?_); rintro e w' ⟨neg, v, p, rfl, hb⟩; replace HB := bt_ HB hb; replace BK := Aside0.mk (blk_below BK.out hb); have z0 := (blk_cell BK.out 0).trans (show _ = some (Value.string ⟨#[]⟩) from rfl); have z1 := (blk_cell BK.out 1).trans (show _ = some (Value.int .i64 0) from rfl); have z2 := (blk_cell BK.out 2).trans (show _ = some (Value.bool false) from rfl); have f0 := blk_frozen BK.out 0; have f1 := blk_frozen BK.out 1; have f2 := blk_frozen BK.out 2; clear hb))
  refine bodyPost_ret (res_row_tmp rfl _ _ g 28 #[.string ⟨#[]⟩, .int .i64 0, .bool false] (0, 0) _ rfl (by refine blk_put (cs := #[.string ⟨#[]⟩, .int .i64 0, .bool false]) ?_ 2 _ rfl; refine blk_put (cs := #[.string ⟨#[]⟩, .int .i64 0, .bool false]) ?_ 1 _ rfl; refine blk_put (cs := #[.string ⟨#[]⟩, .int .i64 0, .bool false]) ?_ 0 _ rfl; exact BK.out) Tryz.underlying28 rfl (by kernel_rfl)) rfl ?_
  exact ⟨rfl, below_set (below_set (below_set HB.out GE.out) GE.out) GE.out⟩
 have d1 := decide_eq_false c1
 by_cases c2 : 40 < n
 ·have d2 := decide_eq_true c2
  clear h c1 c2
  go_enter Tryz.func13, Tryz.ntmps13
  go_upto_region 1 with (fail)
  obtain ⟨g, hg⟩ : ∃ g, w.heap.size = g := ⟨_, rfl⟩
  generalize hW : w.alloc _ = W1
  have BK := Aside0.mk (show W1.heap[g]? = some (.cells #[.string ⟨#[]⟩, .int .i64 0, .bool false] 28 (0, 0)) by rw [← hW, ← hg]; exact blk_new _ _)
  have HB := Aside0.mk (show Below w.heap.size w W1 by rw [← hW]; exact below_alloc (Below.refl _ _) _)
  have GE := Aside0.mk (show w.heap.size ≤ g by omega)
  clear hW
  rw [hg]
  clear hg
  go_wp2_with ((go_at_call 36; (with_reducible refine (HS.out _).mono ?_); rintro e w' ⟨neg, v, p, rfl, hb⟩; replace HB := bt_ HB hb; replace BK := Aside0.mk (blk_below BK.out hb); have z0 := (blk_cell BK.out 0).trans (show _ = some (Value.string ⟨#[]⟩) from rfl); have z1 := (blk_cell BK.out 1).trans (show _ = some (Value.int .i64 0) from rfl); have z2 := (blk_cell BK.out 2).trans (show _ = some (Value.bool false) from rfl); have f0 := blk_frozen BK.out 0; have f1 := blk_frozen BK.out 1; have f2 := blk_frozen BK.out 2; clear hb))
  refine bodyPost_ret (res_row_tmp rfl _ _ g 28 #[.string ⟨#[]⟩, .int .i64 0, .bool false] (0, 0) _ rfl (by refine blk_put (cs := #[.string ⟨#[]⟩, .int .i64 0, .bool false]) ?_ 2 _ rfl; refine blk_put (cs := #[.string ⟨#[]⟩, .int .i64 0, .bool false]) ?_ 1 _ rfl; refine blk_put (cs := #[.string ⟨#[]⟩, .int .i64 0, .bool false]) ?_ 0 _ rfl; exact BK.out) Tryz.underlying28 rfl (by kernel_rfl)) rfl ?_
  exact ⟨rfl, below_set (below_set (below_set HB.out GE.out) GE.out) GE.out⟩
 ·have d2 := decide_eq_false c2
  have d3 : fin = false := by rcases h with h | h | h; exact absurd h c1; exact absurd h c2; exact h
  subst d3
  clear h c1 c2
  go_enter Tryz.func13, Tryz.ntmps13
  go_upto_region 1 with (fail)
  obtain ⟨g, hg⟩ : ∃ g, w.heap.size = g := ⟨_, rfl⟩
  generalize hW : w.alloc _ = W1
  have BK := Aside0.mk (show W1.heap[g]? = some (.cells #[.string ⟨#[]⟩, .int .i64 0, .bool false] 28 (0, 0)) by rw [← hW, ← hg]; exact blk_new _ _)
  have HB := Aside0.mk (show Below w.heap.size w W1 by rw [← hW]; exact below_alloc (Below.refl _ _) _)
  have GE := Aside0.mk (show w.heap.size ≤ g by omega)
  clear hW
  rw [hg]
  clear hg
  go_wp2_with ((go_at_call 36; (with_reducible refine (HS.out _).mono ?_); rintro e w' ⟨neg, v, p, rfl, hb⟩; replace HB := bt_ HB hb; replace BK := Aside0.mk (blk_below BK.out hb); have z0 := (blk_cell BK.out 0).trans (show _ = some (Value.string ⟨#[]⟩) from rfl); have z1 := (blk_cell BK.out 1).trans (show _ = some (Value.int .i64 0) from rfl); have z2 := (blk_cell BK.out 2).trans (show _ = some (Value.bool false) from rfl); have f0 := blk_frozen BK.out 0; have f1 := blk_frozen BK.out 1; have f2 := blk_frozen BK.out 2; clear hb))
  refine bodyPost_ret (res_row_tmp rfl _ _ g 28 #[.string ⟨#[]⟩, .int .i64 0, .bool false] (0, 0) _ rfl (by refine blk_put (cs := #[.string ⟨#[]⟩, .int .i64 0, .bool false]) ?_ 2 _ rfl; refine blk_put (cs := #[.string ⟨#[]⟩, .int .i64 0, .bool false]) ?_ 1 _ rfl; refine blk_put (cs := #[.string ⟨#[]⟩, .int .i64 0, .bool false]) ?_ 0 _ rfl; exact BK.out) Tryz.underlying28 rfl (by kernel_rfl)) rfl ?_
  exact ⟨rfl, below_set (below_set (below_set HB.out GE.out) GE.out) GE.out⟩
theorem rep48 (k : Nat) : Lib.repeatL [48] k = List.replicate k 48 := by
 induction k with
 | zero => rfl
 | succ k ih => rw [Lib.repeatL, ih, List.replicate_succ]; rfl
theorem d_Repeat (w : World) (n : Int) (h0 : 0 ≤ n) (h1 : n ≤ 1000000) : Calls Tryz.prog 37 #[.string ⟨#[48]⟩, .int .i64 n] w fun e w' => e = .returned (.string (bs (List.replicate n.toNat 48))) ∧ Below w.heap.size w w' := by
 have h := Tryz.strings_Repeat ⟨#[48]⟩ n.toNat w (by omega) (by show 1 * _ ≤ _; omega)
 rw [show ((n.toNat : Nat) : Int) = n by omega] at h
 have e : Lib.repeatL (⟨#[48]⟩ : ByteArray).data.toList n.toNat = List.replicate n.toNat 48 := rep48 _
 rw [e] at h
 exact h
set_option maxRecDepth 100000 in
theorem d_Rep_zero (w : World) (a : Nat) (ha : a < 18446744073709551616) (hf : ffin a = true) (hz : fmant a = 0) (n : Int) (h0 : 1 ≤ n) (h1 : n ≤ 40) : Calls Tryz.prog 13 #[.int .u64 (a : Int), .int .i64 n] w fun e w' => e = .returned (.tuple #[.agg #[.string (bs (List.replicate n.toNat 48)), .int .i64 0, .bool (fneg a)], .int .i64 0]) ∧ Below w.heap.size w w' := by
 have HS := Aside0.mk (fun w => s_Split_good w a ha hf)
 have HR := Aside0.mk (fun w => d_Repeat w n (by omega) (by omega))
 obtain ⟨aa, haa⟩ : ∃ z : Int, (a : Int) = z := ⟨_, rfl⟩
 obtain ⟨neg, hneg⟩ : ∃ z, fneg a = z := ⟨_, rfl⟩
 obtain ⟨t, ht⟩ : ∃ z, bs (List.replicate n.toNat 48) = z := ⟨_, rfl⟩
 rw [haa, hneg, hz] at HS
 rw [ht] at HR
 rw [haa, hneg, ht]
 have d1 := decide_eq_false (show ¬ n < 1 by omega)
 have d2 := decide_eq_false (show ¬ 40 < n by omega)
 have HZ := Aside0.mk (show (Num.wordsN 0).length = 0 by rw [Num.wordsN_zero]; rfl)
 clear ha hf hz haa hneg ht h0 h1
 go_enter Tryz.func13, Tryz.ntmps13
 go_upto_region 1 with (fail)
 obtain ⟨g, hg⟩ : ∃ g, w.heap.size = g := ⟨_, rfl⟩
 generalize hW : w.alloc _ = W1
 have BK := Aside0.mk (show W1.heap[g]? = some (.cells #[.string ⟨#[]⟩, .int .i64 0, .bool false] 28 (0, 0)) by rw [← hW, ← hg]; exact blk_new _ _)
 have HB := Aside0.mk (show Below w.heap.size w W1 by rw [← hW]; exact below_alloc (Below.refl _ _) _)
 have GE := Aside0.mk (show w.heap.size ≤ g by omega)
 clear hW
 rw [hg]
 clear hg
 go_wp2_with (first | (go_at_call 36; (with_reducible refine (HS.out _).mono ?_); rintro e w' ⟨v, rfl, hv, hb⟩; obtain ⟨A, c, hva, -, -, -⟩ := hv.open; rw [HZ.out] at hva; subst hva; clear hv; replace HB := bt_ HB hb; replace BK := Aside0.mk (blk_below BK.out hb); have z0 := (blk_cell BK.out 0).trans (show _ = some (Value.string ⟨#[]⟩) from rfl); have z1 := (blk_cell BK.out 1).trans (show _ = some (Value.int .i64 0) from rfl); have z2 := (blk_cell BK.out 2).trans (show _ = some (Value.bool false) from rfl); have f0 := blk_frozen BK.out 0; have f1 := blk_frozen BK.out 1; have f2 := blk_frozen BK.out 2; clear hb) | (go_at_call 37; (with_reducible refine (HR.out _).mono ?_); rintro e w'' ⟨rfl, hb⟩; clear z0 z1 z2 f0 f1 f2; replace HB := bt_ HB hb; replace BK := Aside0.mk (blk_below BK.out hb); have z0 := (blk_cell BK.out 0).trans (show _ = some (Value.string ⟨#[]⟩) from rfl); have z1 := (blk_cell BK.out 1).trans (show _ = some (Value.int .i64 0) from rfl); have z2 := (blk_cell BK.out 2).trans (show _ = some (Value.bool false) from rfl); have f0 := blk_frozen BK.out 0; have f1 := blk_frozen BK.out 1; have f2 := blk_frozen BK.out 2; clear hb))
 refine bodyPost_ret (res_row_tmp rfl _ _ g 28 #[.string t, .int .i64 0, .bool neg] (0, 0) _ rfl (by refine blk_put (cs := #[.string t, .int .i64 0, .bool false]) ?_ 2 _ rfl; refine blk_put (cs := #[.string t, .int .i64 0, .bool false]) ?_ 1 _ rfl; refine blk_put (cs := #[.string ⟨#[]⟩, .int .i64 0, .bool false]) ?_ 0 _ rfl; exact BK.out) Tryz.underlying28 rfl (by kernel_rfl)) rfl ?_
 exact ⟨rfl, below_set (below_set (below_set HB.out GE.out) GE.out) GE.out⟩
theorem tdiv_bound (s : Int) (h : -32400000 ≤ s) (h2 : s ≤ 32400000) : -324 ≤ s.tdiv 100000 ∧ s.tdiv 100000 ≤ 324 := by
 rcases Int.le_total 0 s with c | c
 ·rw [Int.tdiv_eq_ediv_of_nonneg c]
  omega
 ·obtain ⟨z, hz⟩ : ∃ z, s = -z := ⟨-s, by omega⟩
  subst hz
  rw [Int.neg_tdiv, Int.tdiv_eq_ediv_of_nonneg (by omega)]
  omega
set_option maxRecDepth 100000 in
theorem d_Rep_main (w : World) (a : Nat) (ha : a < 18446744073709551616) (hf : ffin a = true) (hz : 0 < fmant a) (n : Int) (h0 : 1 ≤ n) (h1 : n ≤ 40) (D : Int) (hD : Dex (fmant a) (fpow a) D) : Calls Tryz.prog 13 #[.int .u64 (a : Int), .int .i64 n] w fun e w' => e = .returned (.tuple #[.agg #[.string (bs (repT (fmant a) (fpow a) n D)), .int .i64 (repX (fmant a) (fpow a) n D), .bool (fneg a)], .int .i64 0]) ∧ Below w.heap.size w w' := by
 have HS := Aside0.mk (fun w => s_Split_good w a ha hf)
 have hM := fmant_lt a
 obtain ⟨he1, he2⟩ := fpow_bound a hf
 obtain ⟨aa, haa⟩ : ∃ z : Int, (a : Int) = z := ⟨_, rfl⟩
 obtain ⟨neg, hneg⟩ : ∃ z, fneg a = z := ⟨_, rfl⟩
 rw [haa, hneg] at HS
 rw [haa, hneg]
 obtain ⟨M, hMM⟩ : ∃ z, fmant a = z := ⟨_, rfl⟩
 obtain ⟨e, hee⟩ : ∃ z, fpow a = z := ⟨_, rfl⟩
 rw [hMM, hee] at HS hD ⊢
 rw [hMM] at hM hz
 rw [hee] at he1 he2
 obtain ⟨hD1, hD2⟩ := hD.bound hz hM he1 he2
 have fM : Fit M := fit_lt hM (by omega)
 have HBits := Aside0.mk (fun (w : World) (v : Value) (h : Nm w v M) => n_Bits h fM)
 have hb53 : Num.bitsN M ≤ 53 := bits_lt hM
 obtain ⟨b, hbb⟩ : ∃ z : Int, ((Num.bitsN M : Nat) : Int) = z := ⟨_, rfl⟩
 rw [hbb] at HBits
 have hb0 : 0 ≤ b ∧ b ≤ 53 := by omega
 obtain ⟨s1, hs1⟩ : ∃ z, b + e = z := ⟨_, rfl⟩
 obtain ⟨s2, hs2⟩ : ∃ z, s1 * 30103 = z := ⟨_, rfl⟩
 obtain ⟨s3, hs3⟩ : ∃ z, s2.tdiv 100000 = z := ⟨_, rfl⟩
 have hs3b := tdiv_bound s2 (by omega) (by omega)
 rw [hs3] at hs3b
 obtain ⟨x0, hx0⟩ : ∃ z, s3 + 1 = z := ⟨_, rfl⟩
 have v1 : wrap64 (b + e) = s1 := by rw [hs1, i64_id (by omega) (by omega)]
 have v2 : IntKind.i64.wrap (b + e) = s1 := (i64_w _).trans v1
 have v3 : wrap64 (s1 * 30103) = s2 := by rw [hs2, i64_id (by omega) (by omega)]
 have v4 : IntKind.i64.wrap (s1 * 30103) = s2 := (i64_w _).trans v3
 have v5 : wrap64 s3 = s3 := i64_id (by omega) (by omega)
 have v6 : IntKind.i64.wrap s3 = s3 := (i64_w _).trans v5
 have v7 : wrap64 (s3 + 1) = x0 := by rw [hx0, i64_id (by omega) (by omega)]
 have v8 : IntKind.i64.wrap (s3 + 1) = x0 := (i64_w _).trans v7
 have HX0 := Aside0.mk (show -400 ≤ x0 ∧ x0 ≤ 400 by omega)
 have HDB := Aside0.mk (show -335 ≤ D ∧ D ≤ 342 by omega)
 have HDD := Aside0.mk hD
 have HRch := Aside0.mk (fun (w : World) (v : Value) (h : Nm w v M) (x : Int) (k1 : -400 ≤ x) (k2 : x ≤ 400) => d_reaches w h hM e x he1 he2 k1 k2)
 have HNear := Aside0.mk (fun (w : World) (v : Value) (h : Nm w v M) => d_near w h hM e n D he1 he2 (by omega) (by omega) (by omega) (by omega))
 obtain ⟨L, hL⟩ : ∃ z, (Num.wordsN M).length = z := ⟨_, rfl⟩
 have hL0 : 0 < L := by
  rw [← hL]
  rcases Nat.eq_zero_or_pos (Num.wordsN M).length with z | z
  ·exfalso
   have : M = 0 := by rw [← Num.wordsN_val M, List.eq_nil_of_length_eq_zero z]; rfl
   omega
  ·exact z
 have HL := Aside0.mk hL
 have g1 : ((L : Int) == 0) = false := by rw [beq_eq_false_iff_ne]; omega
 have g2 : ¬ (L : Int) = 0 := by omega
 have g3 : ¬ L = 0 := by omega
 have d1 := decide_eq_false (show ¬ n < 1 by omega)
 have d2 := decide_eq_false (show ¬ 40 < n by omega)
 have HN := Aside0.mk (show 1 ≤ n ∧ n ≤ 40 by omega)
 obtain ⟨T, hT⟩ : ∃ z, Num.textN (nearN M e (D - n)) = z := ⟨_, rfl⟩
 have hTT : (⟨(Num.textN (nearN M e (D - n))).toArray⟩ : ByteArray) = bs T := by rw [hT]; rfl
 rw [hTT] at HNear
 unfold repT repX
 rw [hT]
 obtain ⟨t, ht⟩ : ∃ z, bs T = z := ⟨_, rfl⟩
 rw [ht] at HNear
 have htl : T.length = t.size := by rw [← ht, bs_size]
 have htk : bs (T.take n.toNat) = if n < T.length then t.extract 0 n.toNat else t := by
  split
  ·rw [← ht, bs_to]
  ·rw [← ht, List.take_of_length_le (by omega)]
 rw [htk, htl]
 obtain ⟨u, hu⟩ : ∃ z : ByteArray, (if n < (t.size : Nat) then t.extract 0 n.toNat else t) = z := ⟨_, rfl⟩
 obtain ⟨x5, hx5⟩ : ∃ z : Int, (if n < (t.size : Nat) then D + 1 else D) = z := ⟨_, rfl⟩
 rw [hu, hx5]
 have HU := Aside0.mk hu
 have HXX := Aside0.mk hx5
 clear hu hx5 htk htl ht hT hTT hL hL0 hb0 hb53 fM hM hz hD he1 he2 hs3b hD1 hD2 h0 h1 ha hf haa hneg hMM hee hbb hs1 hs2 hx0
 go_enter Tryz.func13, Tryz.ntmps13
 go_upto_region 1 with (fail)
 obtain ⟨g, hg⟩ : ∃ g, w.heap.size = g := ⟨_, rfl⟩
 generalize hW : w.alloc _ = W1
 have BK := Aside0.mk (show W1.heap[g]? = some (.cells #[.string ⟨#[]⟩, .int .i64 0, .bool false] 28 (0, 0)) by rw [← hW, ← hg]; exact blk_new _ _)
 have HB := Aside0.mk (show Below w.heap.size w W1 by rw [← hW]; exact below_alloc (Below.refl _ _) _)
 have GE := Aside0.mk (show w.heap.size ≤ g by omega)
 clear hW
 rw [hg]
 clear hg
 go_wp2_with (first | (go_at_call 36; (with_reducible refine (HS.out _).mono ?_); rintro e w' ⟨v, rfl, hv, hb⟩; obtain ⟨A, c, hva, -, -, -⟩ := hv.open; rw [HL.out] at hva; subst hva; have HV := Aside0.mk hv; clear hv; replace HB := bt_ HB hb; replace BK := Aside0.mk (blk_below BK.out hb); clear hb) | (go_at_call 38; (with_reducible refine (HBits.out _ _ HV.out).mono ?_); rintro e w'' ⟨rfl, hb⟩; replace HV := Aside0.mk (HV.out.below hb); replace HB := bt_ HB hb; replace BK := Aside0.mk (blk_below BK.out hb); clear hb))
 clear v1 v2 v3 v4 v5 v6 v7 v8 hs3 HS HBits
 go_loopg [10] (D - x0).toNat (fun kq v10 wr => ∃ x : Int, v10 = .int .i64 x ∧ Aside0 (-400 ≤ x ∧ x ≤ 400 ∧ -400 ≤ x ∧ (D - x).toNat = kq) ∧ Aside0 (Nm wr (.slice A L c) M) ∧ Aside0 (Below w.heap.size w wr) ∧ Aside0 (wr.heap[g]? = some (.cells #[.string ⟨#[]⟩, .int .i64 0, .bool false] 28 (0, 0))))
 case atStart => exact ⟨x0, rfl, ⟨by have := HX0.out; omega⟩, HV, HB, BK⟩
 case round =>
  clear HV HB BK
  obtain ⟨x, rfl, HQ, HV, HB, BK⟩ := hrel
  have C1 := Aside0.mk (fun wq (h : Nm wq (.slice A L c) M) => HRch.out wq _ h x (by have := HQ.out; omega) (by have := HQ.out; omega))
  cases hx : rch M e x with
  | true =>
   have hlt : x < D := HDD.out.lt hx
   obtain ⟨j, rfl⟩ : ∃ j, gk = j + 1 := ⟨gk - 1, by have := HQ.out; omega⟩
   have HQ2 := Aside0.mk (show -400 ≤ x + 1 ∧ x + 1 ≤ 400 ∧ -400 ≤ x + 1 ∧ (D - (x + 1)).toNat = j by have := HQ.out; have := HDB.out; omega)
   have y1 : wrap64 (x + 1) = x + 1 := by have := HQ2.out; rw [i64_id (by omega) (by omega)]
   have y2 : IntKind.i64.wrap (x + 1) = x + 1 := (i64_w _).trans y1
   rw [hx] at C1
   clear hx hlt
   go_wp2_with (go_at_call 39; (with_reducible refine (C1.out _ HV.out).mono ?_); rintro q w5 ⟨rfl, hb⟩; replace HV := Aside0.mk (HV.out.below hb); replace HB := bt_ HB hb; replace BK := Aside0.mk (blk_below BK.out hb); clear hb)
   go_roundg j
   case measure => omega
   case rel => exact ⟨x + 1, by first | rfl | (rw [y1]) | (rw [y2]), HQ2, HV, HB, BK⟩
  | false =>
   have hge : D ≤ x := HDD.out.ge hx
   have HG := Aside0.mk (show -400 ≤ x ∧ x ≤ 400 ∧ D ≤ x by have := HQ.out; omega)
   rw [hx] at C1
   clear hx hge
   go_wp2_with (go_at_call 39; (with_reducible refine (C1.out _ HV.out).mono ?_); rintro q w5 ⟨rfl, hb⟩; replace HV := Aside0.mk (HV.out.below hb); replace HB := bt_ HB hb; replace BK := Aside0.mk (blk_below BK.out hb); clear hb)
   go_loopg [10] (x - D).toNat (fun kq v10 wr => ∃ x : Int, v10 = .int .i64 x ∧ Aside0 (-400 ≤ x ∧ x ≤ 400 ∧ D ≤ x ∧ (x - D).toNat = kq) ∧ Aside0 (Nm wr (.slice A L c) M) ∧ Aside0 (Below w.heap.size w wr) ∧ Aside0 (wr.heap[g]? = some (.cells #[.string ⟨#[]⟩, .int .i64 0, .bool false] 28 (0, 0))))
   case atStart => exact ⟨x, rfl, ⟨by have := HG.out; omega⟩, HV, HB, BK⟩
   case round =>
    clear HV HB BK HQ HG C1
    obtain ⟨x2, rfl, HQ, HV, HB, BK⟩ := hrel
    have C2 := Aside0.mk (fun wq (h : Nm wq (.slice A L c) M) => HRch.out wq _ h (x2 - 1) (by have := HQ.out; have := HDB.out; omega) (by have := HQ.out; omega))
    obtain ⟨x3, hx3⟩ : ∃ z, x2 - 1 = z := ⟨_, rfl⟩
    have y1 : wrap64 (x2 - 1) = x3 := by have := HQ.out; rw [i64_id (by omega) (by omega)]; exact hx3
    have y2 : IntKind.i64.wrap (x2 - 1) = x3 := (i64_w _).trans y1
    rw [hx3] at C2
    cases hx : rch M e x3 with
    | false =>
     have hge : D ≤ x3 := HDD.out.ge hx
     obtain ⟨j, rfl⟩ : ∃ j, gk = j + 1 := ⟨gk - 1, by have := HQ.out; omega⟩
     have HQ2 := Aside0.mk (show -400 ≤ x3 ∧ x3 ≤ 400 ∧ D ≤ x3 ∧ (x3 - D).toNat = j by have := HQ.out; have := HDB.out; omega)
     rw [hx] at C2
     have hx4 := Aside0.mk hx3
     clear hx hge hx3
     go_wp2_with (go_at_call 39; (with_reducible refine (C2.out _ HV.out).mono ?_); rintro q w5 ⟨rfl, hb⟩; replace HV := Aside0.mk (HV.out.below hb); replace HB := bt_ HB hb; replace BK := Aside0.mk (blk_below BK.out hb); clear hb)
     go_roundg j
     case measure => omega
     case rel => exact ⟨x3, by first | rfl | (rw [y1]) | (rw [y2]), HQ2, HV, HB, BK⟩
    | true =>
     have hlt : x3 < D := HDD.out.lt hx
     have hx2 : x2 = D := by have := HQ.out; omega
     rw [hx] at C2
     subst hx2
     have hx4 := Aside0.mk hx3
     clear hx hlt hx3
     by_cases hn : n < (t.size : Nat)
     ·have e1 := decide_eq_true hn
      have e2 : (0 : Int) ≤ n := by have := HN.out; omega
      have e3 : n ≤ (t.size : Nat) := by omega
      have hu := HU.out
      have hx5 := HXX.out
      rw [if_pos hn] at hu hx5
      have z1 : wrap64 (x2 + 1) = x5 := by have := HQ.out; rw [i64_id (by omega) (by omega)]; exact hx5
      have z2 : IntKind.i64.wrap (x2 + 1) = x5 := (i64_w _).trans z1
      clear hn hx5
      go_wp2_with (first | (go_at_call 39; (with_reducible refine (C2.out _ HV.out).mono ?_); rintro q w5 ⟨rfl, hb⟩; replace HV := Aside0.mk (HV.out.below hb); replace HB := bt_ HB hb; replace BK := Aside0.mk (blk_below BK.out hb); clear hb) | (go_at_call 40; (with_reducible refine (HNear.out _ _ HV.out).mono ?_); rintro q w6 ⟨rfl, hb⟩; replace HB := bt_ HB hb; replace BK := Aside0.mk (blk_below BK.out hb); have z0 := (blk_cell BK.out 0).trans (show _ = some (Value.string ⟨#[]⟩) from rfl); have z1 := (blk_cell BK.out 1).trans (show _ = some (Value.int .i64 0) from rfl); have z2 := (blk_cell BK.out 2).trans (show _ = some (Value.bool false) from rfl); have f0 := blk_frozen BK.out 0; have f1 := blk_frozen BK.out 1; have f2 := blk_frozen BK.out 2; clear hb))
      refine bodyPost_ret (res_row_tmp rfl _ _ g 28 #[.string u, .int .i64 x5, .bool neg] (0, 0) _ rfl (by refine blk_put (cs := #[.string u, .int .i64 x5, .bool false]) ?_ 2 _ rfl; refine blk_put (cs := #[.string u, .int .i64 0, .bool false]) ?_ 1 _ rfl; refine blk_put (cs := #[.string ⟨#[]⟩, .int .i64 0, .bool false]) ?_ 0 _ rfl; exact BK.out) Tryz.underlying28 rfl (by kernel_rfl)) rfl ?_
      exact ⟨rfl, below_set (below_set (below_set HB.out GE.out) GE.out) GE.out⟩
     ·have e1 := decide_eq_false hn
      have hu := HU.out
      have hx5 := HXX.out
      rw [if_neg hn] at hu hx5
      subst hu hx5
      clear hn
      go_wp2_with (first | (go_at_call 39; (with_reducible refine (C2.out _ HV.out).mono ?_); rintro q w5 ⟨rfl, hb⟩; replace HV := Aside0.mk (HV.out.below hb); replace HB := bt_ HB hb; replace BK := Aside0.mk (blk_below BK.out hb); clear hb) | (go_at_call 40; (with_reducible refine (HNear.out _ _ HV.out).mono ?_); rintro q w6 ⟨rfl, hb⟩; replace HB := bt_ HB hb; replace BK := Aside0.mk (blk_below BK.out hb); have z0 := (blk_cell BK.out 0).trans (show _ = some (Value.string ⟨#[]⟩) from rfl); have z1 := (blk_cell BK.out 1).trans (show _ = some (Value.int .i64 0) from rfl); have z2 := (blk_cell BK.out 2).trans (show _ = some (Value.bool false) from rfl); have f0 := blk_frozen BK.out 0; have f1 := blk_frozen BK.out 1; have f2 := blk_frozen BK.out 2; clear hb))
      refine bodyPost_ret (res_row_tmp rfl _ _ g 28 #[.string t, .int .i64 x2, .bool neg] (0, 0) _ rfl (by refine blk_put (cs := #[.string t, .int .i64 x2, .bool false]) ?_ 2 _ rfl; refine blk_put (cs := #[.string t, .int .i64 0, .bool false]) ?_ 1 _ rfl; refine blk_put (cs := #[.string ⟨#[]⟩, .int .i64 0, .bool false]) ?_ 0 _ rfl; exact BK.out) Tryz.underlying28 rfl (by kernel_rfl)) rfl ?_
      exact ⟨rfl, below_set (below_set (below_set HB.out GE.out) GE.out) GE.out⟩
end Go.Proofs.YtdoeigngpemcgaaGreatDoor.Dec
namespace Go.Flt
open Go.Proofs.YtdoeigngpemcgaaGreatDoor Go.Proofs.YtdoeigngpemcgaaGreatDoor.Dec
open Classical in
/-- how many digits of m times 2^e stand ahead of the point -/
noncomputable def dex (m : Nat) (e : Int) : Int := if h : ∃ D, Dex m e D then Classical.choose h else 0
theorem dex_is {m : Nat} {e : Int} (hm : 0 < m) (hm2 : m < 2 ^ 53) (he : -1074 ≤ e) (he2 : e ≤ 971) : Dex m e (dex m e) := by
 obtain ⟨D, hD, _⟩ := Dex.some hm hm2 he he2
 have h : ∃ D, Dex m e D := ⟨D, hD⟩
 unfold dex
 rw [dif_pos h]
 exact Classical.choose_spec h
theorem dex_eq {m : Nat} {e D : Int} (h : Dex m e D) : dex m e = D := by
 have k : ∃ D, Dex m e D := ⟨D, h⟩
 have h2 : Dex m e (dex m e) := by
  unfold dex
  rw [dif_pos k]
  exact Classical.choose_spec k
 have a := h.lt h2.1
 have b := h2.lt h.1
 omega
noncomputable def repText (a : Nat) (n : Int) : List UInt8 := if fmant a = 0 then List.replicate n.toNat 48 else repT (fmant a) (fpow a) n (dex (fmant a) (fpow a))
noncomputable def repExp (a : Nat) (n : Int) : Int := if fmant a = 0 then 0 else repX (fmant a) (fpow a) n (dex (fmant a) (fpow a))
end Go.Flt
namespace Go.Proofs.YtdoeigngpemcgaaGreatDoor.Dec
open Go.RowKit Go.Flt Go.Read Go.Proofs.YtdoeigngpemcgaaGreatDoor.Pure Go.Proofs.YtdoeigngpemcgaaGreatDoorW.PrintWords Go.Proofs.YtdoeigngpemcgaaGreatDoorW.PrintLast Go.Proofs.YtdoeigngpemcgaaGreatDoorW.PrintMore
theorem rep_dex {a : Nat} (hf : ffin a = true) (hz : fmant a ≠ 0) : Dex (fmant a) (fpow a) (dex (fmant a) (fpow a)) :=
 dex_is (Nat.pos_of_ne_zero hz) (fmant_lt a) (fpow_bound a hf).1 (fpow_bound a hf).2
theorem d_Rep (w : World) (a : Nat) (ha : a < 18446744073709551616) (hf : ffin a = true) (n : Int) (h0 : 1 ≤ n) (h1 : n ≤ 40) : Calls Tryz.prog 13 #[.int .u64 (a : Int), .int .i64 n] w fun e w' => e = .returned (.tuple #[.agg #[.string (bs (repText a n)), .int .i64 (repExp a n), .bool (fneg a)], .int .i64 0]) ∧ Below w.heap.size w w' := by
 unfold repText repExp
 by_cases hz : fmant a = 0
 ·rw [if_pos hz, if_pos hz]
  exact d_Rep_zero w a ha hf hz n h0 h1
 ·rw [if_neg hz, if_neg hz]
  exact d_Rep_main w a ha hf (Nat.pos_of_ne_zero hz) n h0 h1 _ (rep_dex hf hz)
theorem textN_ne (v : Nat) : Num.textN v ≠ [] := Pure.textN_ne v
theorem repText_ne {a : Nat} {n : Int} (h0 : 1 ≤ n) : repText a n ≠ [] := by
 unfold repText
 split
 ·intro h
  have := congrArg List.length h
  rw [List.length_replicate, List.length_nil] at this
  omega
 ·unfold repT
  intro h
  have := congrArg List.length h
  rw [List.length_take, List.length_nil] at this
  have h2 := textN_ne (nearN (fmant a) (fpow a) (dex (fmant a) (fpow a) - n))
  have h3 := List.length_pos_iff.2 h2
  omega
theorem repExp_bound {a : Nat} (hf : ffin a = true) (n : Int) : -335 ≤ repExp a n ∧ repExp a n ≤ 343 := by
 unfold repExp
 split
 ·omega
 ·have hz : fmant a ≠ 0 := by assumption
  have := (rep_dex hf hz).bound (Nat.pos_of_ne_zero hz) (fmant_lt a) (fpow_bound a hf).1 (fpow_bound a hf).2
  unfold repX
  split <;> omega
end Go.Proofs.YtdoeigngpemcgaaGreatDoor.Dec
