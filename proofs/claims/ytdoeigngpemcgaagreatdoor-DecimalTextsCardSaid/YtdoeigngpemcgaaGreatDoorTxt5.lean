/- Over any float and any number of digits the law DecimalTexts answers true: the three texts of a float are the document's own; no condition. This is part 5 of 7: what the session's printing program wrote for the functions reached, and the session's own lemmas. -/
import Derived.Laws.CopyOwn
import Derived.Test.YtdoeigngpemcgaaGreatDoorTxt2
import Derived.Test.YtdoeigngpemcgaaGreatDoorTxt4
set_option maxHeartbeats 32000000
set_option linter.unusedVariables false
set_option linter.unusedSimpArgs false
namespace Go.Flt
open Go.Num
theorem rne_double (m t : Nat) : rne (2 * m) (t + 1) = rne m t := by
 have h1 : 2 * m % 2 ^ (t + 1) = 2 * (m % 2 ^ t) := by rw [Nat.pow_succ, Nat.mul_comm (2 ^ t) 2, Nat.mul_mod_mul_left]
 have h2 : 2 * m / 2 ^ (t + 1) = m / 2 ^ t := by rw [Nat.pow_succ, Nat.mul_comm (2 ^ t) 2, Nat.mul_div_mul_left _ _ (by decide)]
 have h3 : (2 : Nat) ^ (t + 1) = 2 * 2 ^ t := by rw [Nat.pow_succ, Nat.mul_comm]
 unfold rne
 rw [h1, h2, h3]
 by_cases c : 2 ^ t < 2 * (m % 2 ^ t) ∨ 2 * (m % 2 ^ t) = 2 ^ t ∧ m / 2 ^ t % 2 = 1
 ·rw [if_pos c, if_pos (by omega)]
 ·rw [if_neg c, if_neg (by omega)]
theorem mkN_double (m : Nat) (e : Int) : mkN (2 * m) (e - 1) = mkN m e := by
 rcases Nat.eq_zero_or_pos m with z | hm
 ·rw [z]
  unfold mkN
  rw [if_pos rfl, if_pos rfl]
 ·have hx : expo (2 * m) (e - 1) = expo m e := expo_rest hm (r := 0) (by omega) e
  rw [mkN_keep (by omega), mkN_keep (by omega), hx]
  have : keep (2 * m) (e - 1) = keep m e := by
   unfold keep
   rw [hx]
   by_cases c : expo m e ≤ e
   ·rw [if_pos c]
    by_cases d : expo m e ≤ e - 1
    ·rw [if_pos d, show (e - expo m e).toNat = (e - 1 - expo m e).toNat + 1 by omega, Nat.pow_succ, Nat.mul_comm _ 2, ← Nat.mul_assoc, Nat.mul_comm 2 m]
    ·rw [if_neg d, show expo m e = e by omega, show (e - (e - 1)).toNat = 0 + 1 by omega, show (e - e).toNat = 0 by omega, rne_double]
     unfold rne
     rw [Nat.pow_zero, Nat.mod_one, Nat.div_one, if_neg (by omega), Nat.mul_one]
   ·rw [if_neg c, if_neg (by omega), show (expo m e - (e - 1)).toNat = (expo m e - e).toNat + 1 by omega, rne_double]
  rw [this]
theorem sq_pow (m n : Nat) : sq m (2 ^ n) = odd (2 * m) n := by
 have hp := Nat.two_pow_pos n
 have hs := sq_odd m (2 ^ n) n hp
 have : sq (m * 2 ^ n) (2 ^ n) = 2 * m := by
  unfold sq
  rw [Nat.mul_mod_left, Nat.mul_div_cancel _ hp, if_pos rfl, Nat.add_zero]
 rw [this] at hs
 exact hs.symm
theorem make_cut {m n : Nat} (e : Int) (h : n + 54 ≤ bitsN m) : mkN (2 * (m / 2 ^ n) + (if m % 2 ^ n = 0 then 0 else 1)) (e + n - 1) = mkN m e := by
 have hm : 0 < m := by
  rcases Nat.eq_zero_or_pos m with z | z
  ·rw [z, bitsN_zero] at h; omega
  ·exact z
 have hb := bitsN_mul hm 1 0 (by decide)
 rw [Nat.pow_one, Nat.mul_comm] at hb
 have a := mkN_odd (2 * m) n (e - 1) (by rw [show 2 * m = 2 * m + 0 by omega]; omega)
 rw [← sq_pow, mkN_double, show e - 1 + n = e + n - 1 by omega] at a
 exact a
theorem mkN_big {m : Nat} {e : Int} (hm : 0 < m) (h : 971 < expo m e) : mkN m e = 9218868437227405312 := by
 have kg := keep_ge hm (e := e) (by omega)
 rw [mkN_keep (by omega)]
 omega
theorem mkN_small {m : Nat} {e : Int} (h : (bitsN m : Int) + e < -1074) : mkN m e = 0 := by
 rcases Nat.eq_zero_or_pos m with z | hm
 ·rw [z]
  unfold mkN
  rw [if_pos rfl]
 ·have hx : expo m e = -1074 := by unfold expo; omega
  have hb := bitsN_pos hm
  rw [mkN_keep (by omega), hx]
  have : keep m e = 0 := by
   unfold keep
   rw [hx, if_neg (by omega)]
   have hl := bitsN_lt m
   have hp : 2 * 2 ^ bitsN m ≤ 2 ^ (-1074 - e).toNat := by
    rw [Nat.mul_comm, ← Nat.pow_succ]
    exact Nat.pow_le_pow_right (by decide) (by omega)
   generalize (-1074 - e).toNat = P at hp ⊢
   unfold rne
   rw [Nat.mod_eq_of_lt (by omega), Nat.div_eq_of_lt (by omega), if_neg (by omega)]
  rw [this]
  have : ((-1074 : Int) + 1074).toNat = 0 := rfl
  rw [this]
  omega
end Go.Flt
namespace Go.Proofs.YtdoeigngpemcgaaGreatDoor.Dec
open Go.RowKit Go.Flt PDec Go.Proofs.YtdoeigngpemcgaaGreatDoor.Pure YtdoeigngpemcgaaGreatDoorW.PrintWords YtdoeigngpemcgaaGreatDoorW.PrintLast YtdoeigngpemcgaaGreatDoorW.PrintMore
attribute [local go_sem] max2_int min2_int max_two min_two max_three min_three max_four min_four
theorem bits_le_128 {M : Nat} (hM : M < 2 ^ 128) : Num.bitsN M ≤ 128 := by
 rcases Nat.eq_zero_or_pos M with h | h
 ·subst h; rw [Num.bitsN_zero]; omega
 ·rcases Nat.lt_or_ge 128 (Num.bitsN M) with q | q
  ·exfalso
   have h1 := Num.bitsN_le h
   have h3 : 2 ^ 128 ≤ 2 ^ (Num.bitsN M - 1) := Nat.pow_le_pow_right (by decide) (by omega)
   omega
  ·exact q
theorem i64w_id {x : Int} (h0 : -9223372036854775808 ≤ x) (h1 : x ≤ 9223372036854775807) : IntKind.i64.wrap x = x := (i64_w x).trans (i64_id h0 h1)
theorem s_round_l (w : World) (M : Nat) (hM : M < 2 ^ 128) (h0 : 0 < M) (e : Int) (he : -300000 ≤ e) (he2 : e ≤ 300000) (r : Bool) (hq : expo M e ≤ e) :
  Calls Tryz.prog 156 #[.agg #[.int .i64 53, .int .i64 (-1074), .int .i64 971], .int .u64 (hiW M), .int .u64 (loW M), .int .i64 e, .bool r] w fun x w' => x = .returned (.tuple #[.int .u64 ((M * 2 ^ (e - expo M e).toNat : Nat) : Int), .int .i64 (expo M e)]) ∧ Below w.heap.size w w' := by
 have hb := bits_le_128 hM
 have hlt := Num.bitsN_lt M
 have hx : expo M e = max ((Num.bitsN M : Int) + e - 53) (-1074) := rfl
 obtain ⟨d, hd⟩ : ∃ d : Nat, (d : Int) = e - expo M e := ⟨(e - expo M e).toNat, by omega⟩
 have hsz : M * 2 ^ d < 18446744073709551616 := by
  have h1 : M * 2 ^ d < 2 ^ Num.bitsN M * 2 ^ d := Nat.mul_lt_mul_of_pos_right hlt (Nat.two_pow_pos d)
  rw [← Nat.pow_add] at h1
  have h2 : 2 ^ (Num.bitsN M + d) ≤ 2 ^ 64 := Nat.pow_le_pow_right (by decide) (by omega)
  have : (2 : Nat) ^ 64 = 18446744073709551616 := rfl
  omega
 have hMs : M < 18446744073709551616 := Nat.lt_of_le_of_lt (Nat.le_mul_of_pos_right M (Nat.two_pow_pos d)) hsz
 have hlo : loW M = (M : Int) := by unfold loW; rw [Nat.mod_eq_of_lt hMs]
 have hdl : d ≤ 64 := by
  rcases Nat.lt_or_ge 64 d with q | q
  ·exfalso
   have h2 : 2 ^ 64 ≤ 2 ^ d := Nat.pow_le_pow_right (by decide) (by omega)
   have h3 : 1 * 2 ^ d ≤ M * 2 ^ d := Nat.mul_le_mul_right _ h0
   have : (2 : Nat) ^ 64 = 18446744073709551616 := rfl
   omega
  ·exact q
 have hsh := shl64 M d hdl
 rw [Nat.mod_eq_of_lt hsz] at hsh
 unfold shl at hsh
 rw [show IntKind.u64.bits = 64 from rfl] at hsh
 rw [show (e - expo M e).toNat = d by omega]
 obtain ⟨res, hres⟩ : ∃ res : Int, ((M * 2 ^ d : Nat) : Int) = res := ⟨_, rfl⟩
 rw [hres] at hsh ⊢
 obtain ⟨q, hqn⟩ : ∃ q : Int, expo M e = q := ⟨_, rfl⟩
 rw [hqn] at hq hd hx ⊢
 have HL := md_ (fun w => s_length w M hM)
 have HB := md_ (Below.refl w.heap.size w)
 obtain ⟨b, hbn⟩ : ∃ b : Int, ((Num.bitsN M : Nat) : Int) = b := ⟨_, rfl⟩
 rw [hbn] at hx HL
 obtain ⟨s1, hs1⟩ : ∃ s : Int, b + e = s := ⟨_, rfl⟩
 have hw1 : IntKind.i64.wrap (b + e) = s1 := by rw [i64w_id (by omega) (by omega)]; exact hs1
 obtain ⟨s2, hs2⟩ : ∃ s : Int, s1 - 53 = s := ⟨_, rfl⟩
 have hw2 : IntKind.i64.wrap (s1 - 53) = s2 := by rw [i64w_id (by omega) (by omega)]; exact hs2
 have hmax : (if s2 < -1074 then -1074 else s2) = q := by split <;> omega
 have hw3 : IntKind.i64.wrap (e - q) = (d : Int) := by rw [i64w_id (by omega) (by omega)]; omega
 rw [hlo] at HL ⊢
 have hd0 : (0 : Int) ≤ (d : Int) := by omega
 obtain ⟨dd, hdd⟩ : ∃ z : Int, (d : Int) = z := ⟨_, rfl⟩
 rw [hdd] at hw3 hd0 hsh
 have c1 := decide_eq_true hq
 have c2 := eq_true hd0
 clear hx hd hqn hbn hs1 hs2 hlo hMs hsz hres hdd hdl hlt hb h0 he he2 hd0
 go_enter Tryz.func156, Tryz.ntmps156
 go_wp2_with (first | ((with_reducible refine gate_dst (N := 5) rfl ?_); refine box_event ?hg (N := 5) ?hd (cs := #[.int .i64 53, .int .i64 (-1074), .int .i64 971]) (t := 168) ?hr ?_; (case hd => rfl); (case hg => rfl); (case hr => first | (go_simp; done) | (go_simp; rfl)); intro gb hg w12 hbox hb; have n0_ := md_ (below_step HB.out hb); have n1_ := md_ hbox; clear HB; have HB := n0_; have BK := n1_; clear n0_ n1_; clear hb hbox hg))
 go_quiet (first | (go_at_call 171; (with_reducible refine (HL.out _).mono ?_); rintro e w' ⟨rfl, ⟨nd, rfl⟩⟩; (try first | exact ⟨rfl, _, World.drewN_drewN _ _ _⟩ | exact ⟨rfl, _, Eq.trans (World.drewN_drewN _ _ _) (congrArg (World.drewN _) (Nat.add_assoc _ _ _))⟩); have z0 : w12.cell? ⟨gb, 0, none⟩ = some (.int .i64 53) := (blk_cell BK.out 0).trans rfl; have z1 : w12.cell? ⟨gb, 1, none⟩ = some (.int .i64 (-1074)) := (blk_cell BK.out 1).trans rfl))
 go_wp2
 go_ret2
 exact ⟨rfl, pw_below_drewN HB.out _⟩
theorem s_round_r (w : World) (M : Nat) (hM : M < 2 ^ 128) (h0 : 0 < M) (e : Int) (he : -300000 ≤ e) (he2 : e ≤ 300000) (r : Bool) (hq : e < expo M e) :
  Calls Tryz.prog 156 #[.agg #[.int .i64 53, .int .i64 (-1074), .int .i64 971], .int .u64 (hiW M), .int .u64 (loW M), .int .i64 e, .bool r] w fun x w' => x = .returned (.tuple #[.int .u64 (((rnd M e (if r then 1 else 0)).1 : Nat) : Int), .int .i64 (rnd M e (if r then 1 else 0)).2]) ∧ Below w.heap.size w w' := by
 have hb := bits_le_128 hM
 have hlt := Num.bitsN_lt M
 have hx : expo M e = max ((Num.bitsN M : Int) + e - 53) (-1074) := rfl
 obtain ⟨t, ht⟩ : ∃ t : Nat, (t : Int) = expo M e - e - 1 := ⟨(expo M e - e - 1).toNat, by omega⟩
 obtain ⟨H, hH⟩ : ∃ H, H = M / 2 ^ t := ⟨_, rfl⟩
 have hHs : H < 18014398509481984 := by
  rw [hH, Nat.div_lt_iff_lt_mul (Nat.two_pow_pos t)]
  refine Nat.lt_of_lt_of_le hlt ?_
  rw [show (18014398509481984 : Nat) = 2 ^ 54 from rfl, ← Nat.pow_add]
  exact Nat.pow_le_pow_right (by decide) (by omega)
 have hR1 := fun w => s_right w M t hM (by omega)
 have hR2 : ∀ w, Calls Tryz.prog 172 #[.int .u64 (hiW H), .int .u64 (loW H), .int .i64 1] w fun e w' => e = .returned (.tuple #[.int .u64 (hiW (H / 2 ^ 1)), .int .u64 (loW (H / 2 ^ 1)), .bool (decide (H % 2 ^ 1 ≠ 0))]) ∧ Drawn0 w w' := fun w => s_right w H 1 (by have : (2 : Nat) ^ 128 = 340282366920938463463374607431768211456 := rfl; omega) (by omega)
 rw [← hH] at hR1
 rw [Nat.pow_one] at hR2
 have hlo : loW H = (H : Int) := by unfold loW; rw [Nat.mod_eq_of_lt (by omega)]
 have hhi : hiW H = 0 := by unfold hiW; rw [Nat.div_eq_of_lt (by omega)]; rfl
 have hlo2 : loW (H / 2) = ((H / 2 : Nat) : Int) := by unfold loW; rw [Nat.mod_eq_of_lt (by omega)]
 rw [hlo, hhi] at hR1 hR2
 rw [hlo2] at hR2
 have hrnd : rnd M e (if r then 1 else 0) = if hal M t (if r then 1 else 0) = 9007199254740992 then (hal M t (if r then 1 else 0) / 2, expo M e + 1) else (hal M t (if r then 1 else 0), expo M e) := by
  unfold rnd
  rw [if_neg (by omega), show (expo M e - e - 1).toNat = t by omega]
 have hhal : hal M t (if r then 1 else 0) = if H % 2 = 1 ∧ (M % 2 ^ t ≠ 0 ∨ r = true ∨ H / 2 % 2 = 1) then H / 2 + 1 else H / 2 := by
  unfold hal
  rw [← hH]
  cases r <;> simp
 obtain ⟨r1, hr1⟩ : ∃ z : Int, (((rnd M e (if r then 1 else 0)).1 : Nat) : Int) = z := ⟨_, rfl⟩
 obtain ⟨r2, hr2⟩ : ∃ z : Int, (rnd M e (if r then 1 else 0)).2 = z := ⟨_, rfl⟩
 rw [hr1, hr2]
 rw [hrnd, hhal] at hr1 hr2
 have hand1 : bits .and .u64 (H : Int) 1 = ((H % 2 : Nat) : Int) := by rw [show (1 : Int) = ((1 : Nat) : Int) from rfl, u64_and_nat _ _ (by omega) (by omega), nat_mask1]
 have hand2 : bits .and .u64 ((H / 2 : Nat) : Int) 1 = ((H / 2 % 2 : Nat) : Int) := by rw [show (1 : Int) = ((1 : Nat) : Int) from rfl, u64_and_nat _ _ (by omega) (by omega), nat_mask1]
 have hadd : IntKind.u64.wrap (((H / 2 : Nat) : Int) + 1) = ((H / 2 + 1 : Nat) : Int) := by rw [IntKind.wrap_u64]; omega
 obtain ⟨q, hqn⟩ : ∃ q : Int, expo M e = q := ⟨_, rfl⟩
 rw [hqn] at hq ht hx hr1 hr2
 obtain ⟨b, hbn⟩ : ∃ b : Int, ((Num.bitsN M : Nat) : Int) = b := ⟨_, rfl⟩
 have HL := md_ (fun w => s_length w M hM)
 rw [hbn] at hx HL
 obtain ⟨s1, hs1⟩ : ∃ s : Int, b + e = s := ⟨_, rfl⟩
 have hw1 : IntKind.i64.wrap (b + e) = s1 := by rw [i64w_id (by omega) (by omega)]; exact hs1
 obtain ⟨s2, hs2⟩ : ∃ s : Int, s1 - 53 = s := ⟨_, rfl⟩
 have hw2 : IntKind.i64.wrap (s1 - 53) = s2 := by rw [i64w_id (by omega) (by omega)]; exact hs2
 have hmax : (if s2 < -1074 then -1074 else s2) = q := by split <;> omega
 obtain ⟨s3, hs3⟩ : ∃ s : Int, q - e = s := ⟨_, rfl⟩
 have hw3 : IntKind.i64.wrap (q - e) = s3 := by rw [i64w_id (by omega) (by omega)]; exact hs3
 obtain ⟨tt, htt⟩ : ∃ z : Int, (t : Int) = z := ⟨_, rfl⟩
 have hw4 : IntKind.i64.wrap (s3 - 1) = tt := by rw [i64w_id (by omega) (by omega)]; omega
 have hw5 : IntKind.i64.wrap (q + 1) = q + 1 := i64w_id (by omega) (by omega)
 obtain ⟨q1, hq1⟩ : ∃ z : Int, q + 1 = z := ⟨_, rfl⟩
 have hw6 : IntKind.i64.wrap (q + 1) = q1 := by rw [hw5, hq1]
 rw [htt] at hR1
 rw [hq1] at hr1 hr2
 have c1 : decide (q ≤ e) = false := decide_eq_false (by omega)
 obtain ⟨h1, hh1⟩ : ∃ z : Int, (H : Int) = z := ⟨_, rfl⟩
 obtain ⟨h2, hh2⟩ : ∃ z : Int, ((H / 2 : Nat) : Int) = z := ⟨_, rfl⟩
 obtain ⟨h3, hh3⟩ : ∃ z : Int, ((H / 2 + 1 : Nat) : Int) = z := ⟨_, rfl⟩
 rw [hh1] at hR1 hR2 hand1
 rw [hh2] at hR2 hand2 hadd
 rw [hh3] at hadd
 obtain ⟨lost, hlost⟩ : ∃ z : Bool, decide (M % 2 ^ t ≠ 0) = z := ⟨_, rfl⟩
 rw [hlost] at hR1
 have HR1 := md_ hR1
 have HR2 := md_ hR2
 have HB := md_ (Below.refl w.heap.size w)
 have two : ∀ x : Nat, x % 2 = 0 ∨ x % 2 = 1 := fun x => by omega
 have fin : ∀ (N : Nat) (n : Int), (N : Int) = n → ((if H % 2 = 1 ∧ (M % 2 ^ t ≠ 0 ∨ r = true ∨ H / 2 % 2 = 1) then H / 2 + 1 else H / 2) = N) →
   (n = 9007199254740992 → r1 = 4503599627370496 ∧ r2 = q1) ∧ (n ≠ 9007199254740992 → r1 = n ∧ r2 = q) := by
  intro N n hn hN
  rw [hN] at hr1 hr2
  refine ⟨fun h => ?_, fun h => ?_⟩
  ·have hN' : N = 9007199254740992 := by omega
   rw [if_pos hN', hN'] at hr1
   rw [if_pos hN'] at hr2
   exact ⟨hr1.symm, hr2.symm⟩
  ·have hN' : ¬ N = 9007199254740992 := by omega
   rw [if_neg hN'] at hr1 hr2
   exact ⟨hr1.symm.trans hn, hr2.symm⟩
 have HF := md_ fin
 have hh2' := md_ hh2
 have hh3' := md_ hh3
 have hlost' := md_ hlost
 clear fin hx hqn hbn hs1 hs2 hs3 htt hq1 hh1 hh2 hh3 hlost hR1 hR2 hw5 hlo hhi hlo2 hHs hb hlt h0 he he2 hrnd hhal hq ht hH
 have fit0 : ∀ z : Int, z = 9007199254740992 ∨ ((z == 9007199254740992) = false ∧ z ≠ 9007199254740992) := fun z => by
  by_cases h : z = 9007199254740992
  ·exact .inl h
  ·exact .inr ⟨by simpa using h, h⟩
 rcases two H with d1 | d1
 ·
  obtain ⟨hA, hB⟩ := HF.out (H / 2) h2 hh2'.out (if_neg (by omega))
  rw [d1] at hand1
  replace hand1 : bits .and .u64 h1 1 = 0 := hand1
  rcases fit0 h2 with c9 | ⟨c9, c9'⟩
  ·obtain ⟨rfl, rfl⟩ := hA c9
   subst c9
   clear hA hB d1 two fit0 hand2 hadd hr1 hr2
   go_enter Tryz.func156, Tryz.ntmps156
   go_wp2_with (first | ((with_reducible refine gate_dst (N := 5) rfl ?_); refine box_event ?hg (N := 5) ?hd (cs := #[.int .i64 53, .int .i64 (-1074), .int .i64 971]) (t := 168) ?hr ?_; (case hd => rfl); (case hg => rfl); (case hr => first | (go_simp; done) | (go_simp; rfl)); intro gb hg w12 hbox hb; have n0_ := md_ (below_step HB.out hb); have n1_ := md_ hbox; clear HB; have HB := n0_; have BK := n1_; clear n0_ n1_; clear hb hbox hg))
   go_quiet (first | (go_at_call 171; (with_reducible refine (HL.out _).mono ?_); rintro e w' ⟨rfl, ⟨nd, rfl⟩⟩; (try first | exact ⟨rfl, _, World.drewN_drewN _ _ _⟩ | exact ⟨rfl, _, Eq.trans (World.drewN_drewN _ _ _) (congrArg (World.drewN _) (Nat.add_assoc _ _ _))⟩); have z0 : w12.cell? ⟨gb, 0, none⟩ = some (.int .i64 53) := (blk_cell BK.out 0).trans rfl; have z1 : w12.cell? ⟨gb, 1, none⟩ = some (.int .i64 (-1074)) := (blk_cell BK.out 1).trans rfl))
   go_wp2_with (first | (go_at_call 172; (with_reducible refine (HR1.out _).mono ?_); rintro e w' ⟨rfl, ⟨nd, rfl⟩⟩) | (go_at_call 172; (with_reducible refine (HR2.out _).mono ?_); rintro e w' ⟨rfl, ⟨nd, rfl⟩⟩))
   go_ret2
   exact ⟨rfl, pw_below_drewN HB.out _⟩
  ·obtain ⟨rfl, rfl⟩ := hB c9'
   clear hA hB c9' d1 two fit0 hand2 hadd hr1 hr2
   go_enter Tryz.func156, Tryz.ntmps156
   go_wp2_with (first | ((with_reducible refine gate_dst (N := 5) rfl ?_); refine box_event ?hg (N := 5) ?hd (cs := #[.int .i64 53, .int .i64 (-1074), .int .i64 971]) (t := 168) ?hr ?_; (case hd => rfl); (case hg => rfl); (case hr => first | (go_simp; done) | (go_simp; rfl)); intro gb hg w12 hbox hb; have n0_ := md_ (below_step HB.out hb); have n1_ := md_ hbox; clear HB; have HB := n0_; have BK := n1_; clear n0_ n1_; clear hb hbox hg))
   go_quiet (first | (go_at_call 171; (with_reducible refine (HL.out _).mono ?_); rintro e w' ⟨rfl, ⟨nd, rfl⟩⟩; (try first | exact ⟨rfl, _, World.drewN_drewN _ _ _⟩ | exact ⟨rfl, _, Eq.trans (World.drewN_drewN _ _ _) (congrArg (World.drewN _) (Nat.add_assoc _ _ _))⟩); have z0 : w12.cell? ⟨gb, 0, none⟩ = some (.int .i64 53) := (blk_cell BK.out 0).trans rfl; have z1 : w12.cell? ⟨gb, 1, none⟩ = some (.int .i64 (-1074)) := (blk_cell BK.out 1).trans rfl))
   go_wp2_with (first | (go_at_call 172; (with_reducible refine (HR1.out _).mono ?_); rintro e w' ⟨rfl, ⟨nd, rfl⟩⟩) | (go_at_call 172; (with_reducible refine (HR2.out _).mono ?_); rintro e w' ⟨rfl, ⟨nd, rfl⟩⟩))
   go_ret2
   exact ⟨rfl, pw_below_drewN HB.out _⟩
 ·cases lost with
  | true =>
   obtain ⟨hA, hB⟩ := HF.out (H / 2 + 1) h3 hh3'.out (if_pos ⟨d1, .inl (of_decide_eq_true hlost'.out)⟩)
   rw [d1] at hand1
   replace hand1 : bits .and .u64 h1 1 = 1 := hand1
   rcases fit0 h3 with c9 | ⟨c9, c9'⟩
   ·obtain ⟨rfl, rfl⟩ := hA c9
    subst c9
    clear hA hB d1 two fit0 hand2 hr1 hr2
    go_enter Tryz.func156, Tryz.ntmps156
    go_wp2_with (first | ((with_reducible refine gate_dst (N := 5) rfl ?_); refine box_event ?hg (N := 5) ?hd (cs := #[.int .i64 53, .int .i64 (-1074), .int .i64 971]) (t := 168) ?hr ?_; (case hd => rfl); (case hg => rfl); (case hr => first | (go_simp; done) | (go_simp; rfl)); intro gb hg w12 hbox hb; have n0_ := md_ (below_step HB.out hb); have n1_ := md_ hbox; clear HB; have HB := n0_; have BK := n1_; clear n0_ n1_; clear hb hbox hg))
    go_quiet (first | (go_at_call 171; (with_reducible refine (HL.out _).mono ?_); rintro e w' ⟨rfl, ⟨nd, rfl⟩⟩; (try first | exact ⟨rfl, _, World.drewN_drewN _ _ _⟩ | exact ⟨rfl, _, Eq.trans (World.drewN_drewN _ _ _) (congrArg (World.drewN _) (Nat.add_assoc _ _ _))⟩); have z0 : w12.cell? ⟨gb, 0, none⟩ = some (.int .i64 53) := (blk_cell BK.out 0).trans rfl; have z1 : w12.cell? ⟨gb, 1, none⟩ = some (.int .i64 (-1074)) := (blk_cell BK.out 1).trans rfl))
    go_wp2_with (first | (go_at_call 172; (with_reducible refine (HR1.out _).mono ?_); rintro e w' ⟨rfl, ⟨nd, rfl⟩⟩) | (go_at_call 172; (with_reducible refine (HR2.out _).mono ?_); rintro e w' ⟨rfl, ⟨nd, rfl⟩⟩))
    go_ret2
    exact ⟨rfl, pw_below_drewN HB.out _⟩
   ·obtain ⟨rfl, rfl⟩ := hB c9'
    clear hA hB c9' d1 two fit0 hand2 hr1 hr2
    go_enter Tryz.func156, Tryz.ntmps156
    go_wp2_with (first | ((with_reducible refine gate_dst (N := 5) rfl ?_); refine box_event ?hg (N := 5) ?hd (cs := #[.int .i64 53, .int .i64 (-1074), .int .i64 971]) (t := 168) ?hr ?_; (case hd => rfl); (case hg => rfl); (case hr => first | (go_simp; done) | (go_simp; rfl)); intro gb hg w12 hbox hb; have n0_ := md_ (below_step HB.out hb); have n1_ := md_ hbox; clear HB; have HB := n0_; have BK := n1_; clear n0_ n1_; clear hb hbox hg))
    go_quiet (first | (go_at_call 171; (with_reducible refine (HL.out _).mono ?_); rintro e w' ⟨rfl, ⟨nd, rfl⟩⟩; (try first | exact ⟨rfl, _, World.drewN_drewN _ _ _⟩ | exact ⟨rfl, _, Eq.trans (World.drewN_drewN _ _ _) (congrArg (World.drewN _) (Nat.add_assoc _ _ _))⟩); have z0 : w12.cell? ⟨gb, 0, none⟩ = some (.int .i64 53) := (blk_cell BK.out 0).trans rfl; have z1 : w12.cell? ⟨gb, 1, none⟩ = some (.int .i64 (-1074)) := (blk_cell BK.out 1).trans rfl))
    go_wp2_with (first | (go_at_call 172; (with_reducible refine (HR1.out _).mono ?_); rintro e w' ⟨rfl, ⟨nd, rfl⟩⟩) | (go_at_call 172; (with_reducible refine (HR2.out _).mono ?_); rintro e w' ⟨rfl, ⟨nd, rfl⟩⟩))
    go_ret2
    exact ⟨rfl, pw_below_drewN HB.out _⟩
  | false =>
   cases r with
   | true =>
    obtain ⟨hA, hB⟩ := HF.out (H / 2 + 1) h3 hh3'.out (if_pos ⟨d1, .inr (.inl rfl)⟩)
    rw [d1] at hand1
    replace hand1 : bits .and .u64 h1 1 = 1 := hand1
    rcases fit0 h3 with c9 | ⟨c9, c9'⟩
    ·obtain ⟨rfl, rfl⟩ := hA c9
     subst c9
     clear hA hB d1 two fit0 hand2 hr1 hr2
     go_enter Tryz.func156, Tryz.ntmps156
     go_wp2_with (first | ((with_reducible refine gate_dst (N := 5) rfl ?_); refine box_event ?hg (N := 5) ?hd (cs := #[.int .i64 53, .int .i64 (-1074), .int .i64 971]) (t := 168) ?hr ?_; (case hd => rfl); (case hg => rfl); (case hr => first | (go_simp; done) | (go_simp; rfl)); intro gb hg w12 hbox hb; have n0_ := md_ (below_step HB.out hb); have n1_ := md_ hbox; clear HB; have HB := n0_; have BK := n1_; clear n0_ n1_; clear hb hbox hg))
     go_quiet (first | (go_at_call 171; (with_reducible refine (HL.out _).mono ?_); rintro e w' ⟨rfl, ⟨nd, rfl⟩⟩; (try first | exact ⟨rfl, _, World.drewN_drewN _ _ _⟩ | exact ⟨rfl, _, Eq.trans (World.drewN_drewN _ _ _) (congrArg (World.drewN _) (Nat.add_assoc _ _ _))⟩); have z0 : w12.cell? ⟨gb, 0, none⟩ = some (.int .i64 53) := (blk_cell BK.out 0).trans rfl; have z1 : w12.cell? ⟨gb, 1, none⟩ = some (.int .i64 (-1074)) := (blk_cell BK.out 1).trans rfl))
     go_wp2_with (first | (go_at_call 172; (with_reducible refine (HR1.out _).mono ?_); rintro e w' ⟨rfl, ⟨nd, rfl⟩⟩) | (go_at_call 172; (with_reducible refine (HR2.out _).mono ?_); rintro e w' ⟨rfl, ⟨nd, rfl⟩⟩))
     go_ret2
     exact ⟨rfl, pw_below_drewN HB.out _⟩
    ·obtain ⟨rfl, rfl⟩ := hB c9'
     clear hA hB c9' d1 two fit0 hand2 hr1 hr2
     go_enter Tryz.func156, Tryz.ntmps156
     go_wp2_with (first | ((with_reducible refine gate_dst (N := 5) rfl ?_); refine box_event ?hg (N := 5) ?hd (cs := #[.int .i64 53, .int .i64 (-1074), .int .i64 971]) (t := 168) ?hr ?_; (case hd => rfl); (case hg => rfl); (case hr => first | (go_simp; done) | (go_simp; rfl)); intro gb hg w12 hbox hb; have n0_ := md_ (below_step HB.out hb); have n1_ := md_ hbox; clear HB; have HB := n0_; have BK := n1_; clear n0_ n1_; clear hb hbox hg))
     go_quiet (first | (go_at_call 171; (with_reducible refine (HL.out _).mono ?_); rintro e w' ⟨rfl, ⟨nd, rfl⟩⟩; (try first | exact ⟨rfl, _, World.drewN_drewN _ _ _⟩ | exact ⟨rfl, _, Eq.trans (World.drewN_drewN _ _ _) (congrArg (World.drewN _) (Nat.add_assoc _ _ _))⟩); have z0 : w12.cell? ⟨gb, 0, none⟩ = some (.int .i64 53) := (blk_cell BK.out 0).trans rfl; have z1 : w12.cell? ⟨gb, 1, none⟩ = some (.int .i64 (-1074)) := (blk_cell BK.out 1).trans rfl))
     go_wp2_with (first | (go_at_call 172; (with_reducible refine (HR1.out _).mono ?_); rintro e w' ⟨rfl, ⟨nd, rfl⟩⟩) | (go_at_call 172; (with_reducible refine (HR2.out _).mono ?_); rintro e w' ⟨rfl, ⟨nd, rfl⟩⟩))
     go_ret2
     exact ⟨rfl, pw_below_drewN HB.out _⟩
   | false =>
    have hnl := of_decide_eq_false hlost'.out
    rcases two (H / 2) with d2 | d2
    ·
     obtain ⟨hA, hB⟩ := HF.out (H / 2) h2 hh2'.out (if_neg (fun h => h.2.elim hnl (fun a => a.elim (fun a => absurd a (by decide)) (fun a => by omega))))
     rw [d1] at hand1
     replace hand1 : bits .and .u64 h1 1 = 1 := hand1
     rw [d2] at hand2
     replace hand2 : bits .and .u64 h2 1 = 0 := hand2
     rcases fit0 h2 with c9 | ⟨c9, c9'⟩
     ·obtain ⟨rfl, rfl⟩ := hA c9
      subst c9
      clear hA hB d1 d2 hnl two fit0 hadd hr1 hr2
      go_enter Tryz.func156, Tryz.ntmps156
      go_wp2_with (first | ((with_reducible refine gate_dst (N := 5) rfl ?_); refine box_event ?hg (N := 5) ?hd (cs := #[.int .i64 53, .int .i64 (-1074), .int .i64 971]) (t := 168) ?hr ?_; (case hd => rfl); (case hg => rfl); (case hr => first | (go_simp; done) | (go_simp; rfl)); intro gb hg w12 hbox hb; have n0_ := md_ (below_step HB.out hb); have n1_ := md_ hbox; clear HB; have HB := n0_; have BK := n1_; clear n0_ n1_; clear hb hbox hg))
      go_quiet (first | (go_at_call 171; (with_reducible refine (HL.out _).mono ?_); rintro e w' ⟨rfl, ⟨nd, rfl⟩⟩; (try first | exact ⟨rfl, _, World.drewN_drewN _ _ _⟩ | exact ⟨rfl, _, Eq.trans (World.drewN_drewN _ _ _) (congrArg (World.drewN _) (Nat.add_assoc _ _ _))⟩); have z0 : w12.cell? ⟨gb, 0, none⟩ = some (.int .i64 53) := (blk_cell BK.out 0).trans rfl; have z1 : w12.cell? ⟨gb, 1, none⟩ = some (.int .i64 (-1074)) := (blk_cell BK.out 1).trans rfl))
      go_wp2_with (first | (go_at_call 172; (with_reducible refine (HR1.out _).mono ?_); rintro e w' ⟨rfl, ⟨nd, rfl⟩⟩) | (go_at_call 172; (with_reducible refine (HR2.out _).mono ?_); rintro e w' ⟨rfl, ⟨nd, rfl⟩⟩))
      go_ret2
      exact ⟨rfl, pw_below_drewN HB.out _⟩
     ·obtain ⟨rfl, rfl⟩ := hB c9'
      clear hA hB c9' d1 d2 hnl two fit0 hadd hr1 hr2
      go_enter Tryz.func156, Tryz.ntmps156
      go_wp2_with (first | ((with_reducible refine gate_dst (N := 5) rfl ?_); refine box_event ?hg (N := 5) ?hd (cs := #[.int .i64 53, .int .i64 (-1074), .int .i64 971]) (t := 168) ?hr ?_; (case hd => rfl); (case hg => rfl); (case hr => first | (go_simp; done) | (go_simp; rfl)); intro gb hg w12 hbox hb; have n0_ := md_ (below_step HB.out hb); have n1_ := md_ hbox; clear HB; have HB := n0_; have BK := n1_; clear n0_ n1_; clear hb hbox hg))
      go_quiet (first | (go_at_call 171; (with_reducible refine (HL.out _).mono ?_); rintro e w' ⟨rfl, ⟨nd, rfl⟩⟩; (try first | exact ⟨rfl, _, World.drewN_drewN _ _ _⟩ | exact ⟨rfl, _, Eq.trans (World.drewN_drewN _ _ _) (congrArg (World.drewN _) (Nat.add_assoc _ _ _))⟩); have z0 : w12.cell? ⟨gb, 0, none⟩ = some (.int .i64 53) := (blk_cell BK.out 0).trans rfl; have z1 : w12.cell? ⟨gb, 1, none⟩ = some (.int .i64 (-1074)) := (blk_cell BK.out 1).trans rfl))
      go_wp2_with (first | (go_at_call 172; (with_reducible refine (HR1.out _).mono ?_); rintro e w' ⟨rfl, ⟨nd, rfl⟩⟩) | (go_at_call 172; (with_reducible refine (HR2.out _).mono ?_); rintro e w' ⟨rfl, ⟨nd, rfl⟩⟩))
      go_ret2
      exact ⟨rfl, pw_below_drewN HB.out _⟩
    ·
     obtain ⟨hA, hB⟩ := HF.out (H / 2 + 1) h3 hh3'.out (if_pos ⟨d1, .inr (.inr d2)⟩)
     rw [d1] at hand1
     replace hand1 : bits .and .u64 h1 1 = 1 := hand1
     rw [d2] at hand2
     replace hand2 : bits .and .u64 h2 1 = 1 := hand2
     rcases fit0 h3 with c9 | ⟨c9, c9'⟩
     ·obtain ⟨rfl, rfl⟩ := hA c9
      subst c9
      clear hA hB d1 d2 hnl two fit0 hr1 hr2
      go_enter Tryz.func156, Tryz.ntmps156
      go_wp2_with (first | ((with_reducible refine gate_dst (N := 5) rfl ?_); refine box_event ?hg (N := 5) ?hd (cs := #[.int .i64 53, .int .i64 (-1074), .int .i64 971]) (t := 168) ?hr ?_; (case hd => rfl); (case hg => rfl); (case hr => first | (go_simp; done) | (go_simp; rfl)); intro gb hg w12 hbox hb; have n0_ := md_ (below_step HB.out hb); have n1_ := md_ hbox; clear HB; have HB := n0_; have BK := n1_; clear n0_ n1_; clear hb hbox hg))
      go_quiet (first | (go_at_call 171; (with_reducible refine (HL.out _).mono ?_); rintro e w' ⟨rfl, ⟨nd, rfl⟩⟩; (try first | exact ⟨rfl, _, World.drewN_drewN _ _ _⟩ | exact ⟨rfl, _, Eq.trans (World.drewN_drewN _ _ _) (congrArg (World.drewN _) (Nat.add_assoc _ _ _))⟩); have z0 : w12.cell? ⟨gb, 0, none⟩ = some (.int .i64 53) := (blk_cell BK.out 0).trans rfl; have z1 : w12.cell? ⟨gb, 1, none⟩ = some (.int .i64 (-1074)) := (blk_cell BK.out 1).trans rfl))
      go_wp2_with (first | (go_at_call 172; (with_reducible refine (HR1.out _).mono ?_); rintro e w' ⟨rfl, ⟨nd, rfl⟩⟩) | (go_at_call 172; (with_reducible refine (HR2.out _).mono ?_); rintro e w' ⟨rfl, ⟨nd, rfl⟩⟩))
      go_ret2
      exact ⟨rfl, pw_below_drewN HB.out _⟩
     ·obtain ⟨rfl, rfl⟩ := hB c9'
      clear hA hB c9' d1 d2 hnl two fit0 hr1 hr2
      go_enter Tryz.func156, Tryz.ntmps156
      go_wp2_with (first | ((with_reducible refine gate_dst (N := 5) rfl ?_); refine box_event ?hg (N := 5) ?hd (cs := #[.int .i64 53, .int .i64 (-1074), .int .i64 971]) (t := 168) ?hr ?_; (case hd => rfl); (case hg => rfl); (case hr => first | (go_simp; done) | (go_simp; rfl)); intro gb hg w12 hbox hb; have n0_ := md_ (below_step HB.out hb); have n1_ := md_ hbox; clear HB; have HB := n0_; have BK := n1_; clear n0_ n1_; clear hb hbox hg))
      go_quiet (first | (go_at_call 171; (with_reducible refine (HL.out _).mono ?_); rintro e w' ⟨rfl, ⟨nd, rfl⟩⟩; (try first | exact ⟨rfl, _, World.drewN_drewN _ _ _⟩ | exact ⟨rfl, _, Eq.trans (World.drewN_drewN _ _ _) (congrArg (World.drewN _) (Nat.add_assoc _ _ _))⟩); have z0 : w12.cell? ⟨gb, 0, none⟩ = some (.int .i64 53) := (blk_cell BK.out 0).trans rfl; have z1 : w12.cell? ⟨gb, 1, none⟩ = some (.int .i64 (-1074)) := (blk_cell BK.out 1).trans rfl))
      go_wp2_with (first | (go_at_call 172; (with_reducible refine (HR1.out _).mono ?_); rintro e w' ⟨rfl, ⟨nd, rfl⟩⟩) | (go_at_call 172; (with_reducible refine (HR2.out _).mono ?_); rintro e w' ⟨rfl, ⟨nd, rfl⟩⟩))
      go_ret2
      exact ⟨rfl, pw_below_drewN HB.out _⟩
def sg (neg : Bool) (p : Nat) : Nat := if neg then p + 9223372036854775808 else p
theorem s_sign (w : World) (neg : Bool) (p : Nat) (hp : p < 9223372036854775808) : Calls Tryz.prog 154 #[.int .u64 (p : Int), .bool neg] w fun e w' => e = .returned (.int .u64 ((sg neg p : Nat) : Int)) ∧ Drawn0 w w' := by
 refine soft_sign.calls _ _ _ w ?_
 unfold soft_sign.f sg
 cases neg with
 | true =>
  rw [if_pos rfl, if_pos rfl, show (9223372036854775808 : Int) = ((9223372036854775808 : Nat) : Int) from rfl, u64_or_nat _ _ (by omega) (by omega), Nat.or_comm, nat_join 63 _ _ (by decide) (by omega), Nat.add_comm]
 | false => rw [if_neg (by decide), if_neg (by decide)]
theorem s_double (w : World) : Calls Tryz.prog 155 #[] w fun e w' => e = .returned (.agg #[.int .i64 53, .int .i64 (-1074), .int .i64 971]) ∧ Below w.heap.size w w' := soft_double.calls _ _ _ w rfl
theorem s_round (w : World) (M : Nat) (hM : M < 2 ^ 128) (h0 : 0 < M) (e : Int) (he : -300000 ≤ e) (he2 : e ≤ 300000) (r : Bool) :
  Calls Tryz.prog 156 #[.agg #[.int .i64 53, .int .i64 (-1074), .int .i64 971], .int .u64 (hiW M), .int .u64 (loW M), .int .i64 e, .bool r] w fun x w' => x = .returned (.tuple #[.int .u64 (((rnd M e (if r then 1 else 0)).1 : Nat) : Int), .int .i64 (rnd M e (if r then 1 else 0)).2]) ∧ Below w.heap.size w w' := by
 by_cases hq : expo M e ≤ e
 ·have := s_round_l w M hM h0 e he he2 r hq
  unfold rnd
  rw [if_pos hq]
  exact this
 ·exact s_round_r w M hM h0 e he he2 r (by omega)
theorem rnd_lt (M : Nat) (e : Int) (r : Nat) : (rnd M e r).1 < 9007199254740992 := by
 have hlt := Num.bitsN_lt M
 have hx : expo M e = max ((Num.bitsN M : Int) + e - 53) (-1074) := rfl
 unfold rnd
 by_cases hq : expo M e ≤ e
 ·rw [if_pos hq]
  show M * 2 ^ (e - expo M e).toNat < _
  have h1 : M * 2 ^ (e - expo M e).toNat < 2 ^ Num.bitsN M * 2 ^ (e - expo M e).toNat := Nat.mul_lt_mul_of_pos_right hlt (Nat.two_pow_pos _)
  rw [← Nat.pow_add] at h1
  exact Nat.lt_of_lt_of_le h1 (show 2 ^ _ ≤ 2 ^ 53 from Nat.pow_le_pow_right (by decide) (by omega))
 ·rw [if_neg hq]
  obtain ⟨t, ht⟩ : ∃ t : Nat, t = (expo M e - e - 1).toNat := ⟨_, rfl⟩
  rw [← ht]
  have hHs : M / 2 ^ t < 18014398509481984 := by
   rw [Nat.div_lt_iff_lt_mul (Nat.two_pow_pos t)]
   refine Nat.lt_of_lt_of_le hlt ?_
   rw [show (18014398509481984 : Nat) = 2 ^ 54 from rfl, ← Nat.pow_add]
   exact Nat.pow_le_pow_right (by decide) (by omega)
  have hh : hal M t r ≤ 9007199254740992 := by unfold hal; split <;> omega
  split
  ·show hal M t r / 2 < _
   omega
  ·show hal M t r < _
   omega
theorem rnd_ge (M : Nat) (e : Int) (r : Nat) : -1074 ≤ (rnd M e r).2 := by
 have := expo_ge M e
 unfold rnd
 split
 ·exact this
 ·split
  ·show -1074 ≤ expo M e + 1
   omega
  ·exact this
def clamp (e : Int) : Int := min (max e (-100000)) 100000
theorem s_pack (w : World) (neg : Bool) (M : Nat) (hM : M < 2 ^ 128) (e : Int) (r : Bool) :
  Calls Tryz.prog 118 #[.bool neg, .int .u64 (hiW M), .int .u64 (loW M), .int .i64 e, .bool r] w fun x w' => x = .returned (.int .u64 ((sg neg (packN M (clamp e) (if r then 1 else 0)) : Nat) : Int)) ∧ Below w.heap.size w w' := by
 have h1 := hi_lt hM
 have h2 := lo_lt M
 have hor := u64_or_nat _ _ h1 h2
 have hz := or64_zero _ _ h1 h2
 have hd := Nat.div_add_mod M 18446744073709551616
 have HB := md_ (Below.refl w.heap.size w)
 obtain ⟨res, hres⟩ : ∃ z : Int, ((sg neg (packN M (clamp e) (if r then 1 else 0)) : Nat) : Int) = z := ⟨_, rfl⟩
 rw [hres]
 by_cases h0 : M = 0
 ·subst h0
  have hr : res = ((sg neg 0 : Nat) : Int) := by rw [← hres]; rfl
  have HS : Aside0 (∀ w, Calls Tryz.prog 154 #[.int .u64 0, .bool neg] w fun e w' => e = .returned (.int .u64 ((sg neg 0 : Nat) : Int)) ∧ Drawn0 w w') := ⟨fun w => s_sign w neg 0 (by decide)⟩
  have hor0 : bits .or .u64 (hiW 0) (loW 0) = 0 := hz.2 ⟨rfl, rfl⟩
  subst hr
  clear h1 h2 hor hz hd hres hM
  go_enter Tryz.func118, Tryz.ntmps118
  go_wp2_with (go_at_call 154; (with_reducible refine (HS.out _).mono ?_); rintro e w' ⟨rfl, ⟨nd, rfl⟩⟩)
  go_ret
  exact ⟨rfl, by repeat (first | exact HB.out | apply pw_below_drewN)⟩
 ·obtain ⟨o, ho⟩ : ∃ z : Int, bits .or .u64 (hiW M) (loW M) = z := ⟨_, rfl⟩
  have ho0 : o ≠ 0 := by
   intro h
   rw [h] at ho
   have := hz.1 ho
   omega
  have ho1 : (o == 0) = false := by simpa using ho0
  obtain ⟨e1, he1⟩ : ∃ z : Int, (if e < -100000 then -100000 else e) = z := ⟨_, rfl⟩
  obtain ⟨e2, he2⟩ : ∃ z : Int, (if 100000 < e1 then 100000 else e1) = z := ⟨_, rfl⟩
  have hc : clamp e = e2 := by unfold clamp; rw [← he2, ← he1]; split <;> split <;> omega
  have hb1 : -100000 ≤ e2 := by rw [← hc]; unfold clamp; omega
  have hb2 : e2 ≤ 100000 := by rw [← hc]; unfold clamp; omega
  rw [hc] at hres
  have HR := md_ (fun w => s_round w M hM (by omega) e2 (by omega) (by omega) r)
  have HD := md_ s_double
  obtain ⟨rr, hrr⟩ : ∃ z, rnd M e2 (if r then 1 else 0) = z := ⟨_, rfl⟩
  have hlt := rnd_lt M e2 (if r then 1 else 0)
  have hge := rnd_ge M e2 (if r then 1 else 0)
  unfold packN at hres
  rw [if_neg h0] at hres
  rw [hrr] at HR hlt hge hres
  obtain ⟨n, q⟩ := rr
  replace HR := HR.out
  replace hlt : n < 9007199254740992 := hlt
  replace hge : -1074 ≤ q := hge
  replace hres : ((sg neg (if 971 < q then 9218868437227405312 else if n < 4503599627370496 then n else (q + 1075).toNat * 4503599627370496 + (n - 4503599627370496)) : Nat) : Int) = res := hres
  replace HR := md_ HR
  have walk : ∀ (x : Nat), x < 9223372036854775808 → res = ((sg neg x : Nat) : Int) → ((971 < q ∧ x = 9218868437227405312) ∨ (¬ 971 < q ∧ n < 4503599627370496 ∧ x = n) ∨ (¬ 971 < q ∧ ¬ n < 4503599627370496 ∧ x = (q + 1075).toNat * 4503599627370496 + (n - 4503599627370496))) →
    Calls Tryz.prog 118 #[.bool neg, .int .u64 (hiW M), .int .u64 (loW M), .int .i64 e, .bool r] w fun x w' => x = .returned (.int .u64 res) ∧ Below w.heap.size w w' := by
   intro x hx hr hcase
   have HS := md_ (fun w => s_sign w neg x hx)
   rw [← hr] at HS
   obtain ⟨nn, hnn⟩ : ∃ z : Int, (n : Int) = z := ⟨_, rfl⟩
   rw [hnn] at HR
   rcases hcase with ⟨c, hx'⟩ | ⟨c, c2, hx'⟩ | ⟨c, c2, hx'⟩
   ·subst hx'
    replace HS : Aside0 (∀ w, Calls Tryz.prog 154 #[.int .u64 9218868437227405312, .bool neg] w fun e w' => e = .returned (.int .u64 res) ∧ Drawn0 w w') := HS
    have c' := decide_eq_true c
    clear h1 h2 hor hz hd hres hM hr hx hnn hlt hge hc hb1 hb2 hrr ho0 c h0
    go_enter Tryz.func118, Tryz.ntmps118
    go_wp2_with (first | (go_at_call 155; (with_reducible refine (HD.out _).mono ?_); rintro e w' ⟨rfl, hb⟩; replace HB := bt_ HB hb; clear hb) | (go_at_call 156; (with_reducible refine (HR.out _).mono ?_); rintro e w' ⟨rfl, hb⟩; replace HB := bt_ HB hb; clear hb) | (go_at_call 154; (with_reducible refine (HS.out _).mono ?_); rintro e w' ⟨rfl, ⟨nd, rfl⟩⟩))
    go_ret
    exact ⟨rfl, by repeat (first | exact HB.out | apply pw_below_drewN)⟩
   ·subst hx'
    rw [hnn] at HS
    have c' := decide_eq_false c
    have c2' := decide_eq_true (show nn < 4503599627370496 by omega)
    clear h1 h2 hor hz hd hres hM hr hx hnn hlt hge hc hb1 hb2 hrr ho0 c c2 h0
    go_enter Tryz.func118, Tryz.ntmps118
    go_wp2_with (first | (go_at_call 155; (with_reducible refine (HD.out _).mono ?_); rintro e w' ⟨rfl, hb⟩; replace HB := bt_ HB hb; clear hb) | (go_at_call 156; (with_reducible refine (HR.out _).mono ?_); rintro e w' ⟨rfl, hb⟩; replace HB := bt_ HB hb; clear hb) | (go_at_call 154; (with_reducible refine (HS.out _).mono ?_); rintro e w' ⟨rfl, ⟨nd, rfl⟩⟩))
    go_ret
    exact ⟨rfl, by repeat (first | exact HB.out | apply pw_below_drewN)⟩
   ·have c' := decide_eq_false c
    have c2' := decide_eq_false (show ¬ nn < 4503599627370496 by omega)
    obtain ⟨p, hp⟩ : ∃ p : Nat, p = (q + 1075).toNat := ⟨_, rfl⟩
    rw [← hp] at hx'
    obtain ⟨q1, hq1⟩ : ∃ z : Int, q + 1074 = z := ⟨_, rfl⟩
    have hw1 : wrap64 (q + 1074) = q1 := by rw [i64_id (by omega) (by omega)]; exact hq1
    have hw2 : wrap64 (q1 + 1) = (p : Int) := by rw [i64_id (by omega) (by omega)]; omega
    have hw3 : IntKind.u64.wrap (p : Int) = (p : Int) := by rw [IntKind.wrap_u64]; omega
    have hw4 : IntKind.u64.wrap ((p : Int) * 4503599627370496) = ((p * 4503599627370496 : Nat) : Int) := by rw [IntKind.wrap_u64]; omega
    have hand : bits .and .u64 nn 4503599627370495 = ((n - 4503599627370496 : Nat) : Int) := by
     rw [← hnn, show (4503599627370495 : Int) = ((4503599627370495 : Nat) : Int) from rfl, u64_and_nat _ _ (by omega) (by decide), show (4503599627370495 : Nat) = 2 ^ 52 - 1 from rfl, Nat.and_two_pow_sub_one_eq_mod]
     have : (2 : Nat) ^ 52 = 4503599627370496 := rfl
     omega
    have hor2 : bits .or .u64 ((p * 4503599627370496 : Nat) : Int) ((n - 4503599627370496 : Nat) : Int) = (x : Int) := by
     rw [u64_or_nat _ _ (by omega) (by omega), nat_join 52 _ _ (Nat.mul_mod_left _ _) (by have : (2 : Nat) ^ 52 = 4503599627370496 := rfl; omega), hx']
    obtain ⟨pp, hpp⟩ : ∃ z : Int, (p : Int) = z := ⟨_, rfl⟩
    rw [hpp] at hw2 hw3 hw4
    obtain ⟨y1, hy1⟩ : ∃ z : Int, ((p * 4503599627370496 : Nat) : Int) = z := ⟨_, rfl⟩
    obtain ⟨y2, hy2⟩ : ∃ z : Int, ((n - 4503599627370496 : Nat) : Int) = z := ⟨_, rfl⟩
    obtain ⟨xx, hxx⟩ : ∃ z : Int, (x : Int) = z := ⟨_, rfl⟩
    rw [hy1] at hw4 hor2
    rw [hy2] at hand hor2
    rw [hxx] at hor2 HS
    have hw1' : IntKind.i64.wrap (q + 1074) = q1 := (i64_w _).trans hw1
    have hw2' : IntKind.i64.wrap (q1 + 1) = pp := (i64_w _).trans hw2
    clear h1 h2 hor hz hd hres hM hr hx hnn hlt hge hc hb1 hb2 hrr ho0 c c2 h0 hx' hp hpp hy1 hy2 hxx hq1
    go_enter Tryz.func118, Tryz.ntmps118
    go_wp2_with (first | (go_at_call 155; (with_reducible refine (HD.out _).mono ?_); rintro e w' ⟨rfl, hb⟩; replace HB := bt_ HB hb; clear hb) | (go_at_call 156; (with_reducible refine (HR.out _).mono ?_); rintro e w' ⟨rfl, hb⟩; replace HB := bt_ HB hb; clear hb) | (go_at_call 154; (with_reducible refine (HS.out _).mono ?_); rintro e w' ⟨rfl, ⟨nd, rfl⟩⟩))
    go_ret
    exact ⟨rfl, by repeat (first | exact HB.out | apply pw_below_drewN)⟩
  by_cases c : 971 < q
  ·rw [if_pos c] at hres
   exact walk _ (by decide) hres.symm (.inl ⟨c, rfl⟩)
  ·rw [if_neg c] at hres
   by_cases c2 : n < 4503599627370496
   ·rw [if_pos c2] at hres
    exact walk _ (by omega) hres.symm (.inr (.inl ⟨c, c2, rfl⟩))
   ·rw [if_neg c2] at hres
    exact walk _ (by omega) hres.symm (.inr (.inr ⟨c, c2, rfl⟩))
end Go.Proofs.YtdoeigngpemcgaaGreatDoor.Dec
namespace Go.Proofs.YtdoeigngpemcgaaGreatDoor.Dec
open Go.RowKit Go.Flt PDec Go.Proofs.YtdoeigngpemcgaaGreatDoor.Pure YtdoeigngpemcgaaGreatDoorW.PrintWords YtdoeigngpemcgaaGreatDoorW.PrintLast YtdoeigngpemcgaaGreatDoorW.PrintMore
def fneg (a : Nat) : Bool := decide (9223372036854775808 ≤ a)
def fexp (a : Nat) : Nat := a / 4503599627370496 % 2048
def fmant (a : Nat) : Nat := if fexp a = 0 then a % 4503599627370496 else a % 4503599627370496 + 4503599627370496
def fpow (a : Nat) : Int := if fexp a = 0 then -1074 else (fexp a : Int) - 1075
theorem s_isNeg (w : World) (a : Nat) (ha : a < 18446744073709551616) : Calls Tryz.prog 109 #[.int .u64 (a : Int)] w fun e w' => e = .returned (.bool (fneg a)) ∧ Drawn0 w w' := by
 refine soft_isNeg.calls _ _ w ?_
 unfold soft_isNeg.f fneg
 congr 1
 rw [Bool.eq_iff_iff, beq_iff_eq, decide_eq_true_iff]
 omega
set_option maxRecDepth 100000 in
theorem s_split (w : World) (a : Nat) (ha : a < 18446744073709551616) : Calls Tryz.prog 84 #[.int .u64 (a : Int)] w fun e w' => e = .returned (.agg #[.bool (fneg a), .int .u64 ((fmant a : Nat) : Int), .int .i64 (fpow a)]) ∧ Below w.heap.size w w' := by
 have hu102 := Tryz.underlying102
 have HB := md_ (Below.refl w.heap.size w)
 have HN := md_ (fun w => s_isNeg w a ha)
 obtain ⟨neg, hneg⟩ : ∃ z, fneg a = z := ⟨_, rfl⟩
 rw [hneg] at HN ⊢
 obtain ⟨aa, haa⟩ : ∃ z : Int, (a : Int) = z := ⟨_, rfl⟩
 obtain ⟨y, hy⟩ : ∃ z : Int, aa / 4503599627370496 = z := ⟨_, rfl⟩
 obtain ⟨x, hx⟩ : ∃ z : Int, ((fexp a : Nat) : Int) = z := ⟨_, rfl⟩
 obtain ⟨f, hf⟩ : ∃ z : Int, ((a % 4503599627370496 : Nat) : Int) = z := ⟨_, rfl⟩
 have hx0 : fexp a < 2048 := Nat.mod_lt _ (by decide)
 have hand : bits .and .u64 y 2047 = x := by
  rw [← hy, ← haa, ← hx, show ((a : Int) / 4503599627370496) = ((a / 4503599627370496 : Nat) : Int) by omega, show (2047 : Int) = ((2047 : Nat) : Int) from rfl, u64_and_nat _ _ (by omega) (by decide), show (2047 : Nat) = 2 ^ 11 - 1 from rfl, Nat.and_two_pow_sub_one_eq_mod]
  try rfl
 have hfr : bits .and .u64 aa 4503599627370495 = f := by
  rw [← haa, ← hf, show (4503599627370495 : Int) = ((4503599627370495 : Nat) : Int) from rfl, u64_and_nat _ _ ha (by decide), show (4503599627370495 : Nat) = 2 ^ 52 - 1 from rfl, Nat.and_two_pow_sub_one_eq_mod]
  try rfl
 have hor : bits .or .u64 f 4503599627370496 = f + 4503599627370496 := by
  rw [← hf, show (4503599627370496 : Int) = ((4503599627370496 : Nat) : Int) from rfl, u64_or_nat _ _ (by omega) (by decide), Nat.or_comm, nat_join 52 _ _ (by decide) (by have : (2 : Nat) ^ 52 = 4503599627370496 := rfl; omega)]
  omega
 have hw1 : IntKind.i64.wrap x = x := i64w_id (by omega) (by omega)
 have hw1' : wrap64 x = x := i64_id (by omega) (by omega)
 rw [haa] at HN ⊢
 by_cases c : fexp a = 0
 ·have hm : ((fmant a : Nat) : Int) = f := by unfold fmant; rw [if_pos c, hf]
  have hp : fpow a = -1074 := by unfold fpow; rw [if_pos c]
  rw [hm, hp]
  have c1 := decide_eq_false (show ¬ (0 : Int) < x by omega)
  clear hor hx hx0 hf hneg haa hm hp c ha
  go_enter Tryz.func84, Tryz.ntmps84
  go_wp2_with (first | ((with_reducible refine gate_dst (N := 2) rfl ?_); refine box_event ?hg (N := 2) ?hd (cs := #[.bool false, .int .u64 0, .int .i64 0]) (t := 102) ?hr ?_; (case hd => rfl); (case hg => rfl); (case hr => first | (go_simp; done) | (go_simp; rfl)); intro g1 hg w4 hbox hb; have n0_ := md_ (below_step HB.out hb); have n1_ := md_ hbox; have n2_ := md_ ((by rw [hg]; exact (below_size HB.out)) : w.heap.size ≤ g1); clear HB; have HB := n0_; have BK := n1_; have GE := n2_; clear n0_ n1_ n2_; clear hb hbox hg) | (go_at_call 109; (with_reducible refine (HN.out _).mono ?_); rintro e w' ⟨rfl, ⟨nd, rfl⟩⟩) | ((with_reducible refine gate_dst (N := 3) rfl ?_); refine box_event ?hg (N := 3) ?hd (cs := #[.bool false, .int .u64 0, .int .i64 0]) (t := 102) ?hr ?_; (case hd => rfl); (case hg => rfl); (case hr => first | (go_simp; done) | (go_simp; rfl)); intro g2 hg w5 hbox hb; have n0_ := md_ (blk_below (g := g1) (by (with_reducible repeat (first | refine blk_drewN ?_ _ | refine blk_drew ?_ | refine blk_alloc ?_ _)); exact BK.out) hb); have n1_ := md_ (below_step (by repeat (first | (with_reducible first | exact HB.out | apply below_alloc | apply pw_below_drewN | apply below_drew1) | exact HB.out)) hb); have n2_ := md_ hbox; have n3_ := md_ ((by rw [hg]; exact (below_size (by repeat (first | (with_reducible first | exact HB.out | apply below_alloc | apply pw_below_drewN | apply below_drew1) | exact HB.out))) : w.heap.size ≤ g2)); have n4_ := md_ ((by rw [hg]; exact Nat.ne_of_lt (blk_lt (g := g1) (by (with_reducible repeat (first | refine blk_drewN ?_ _ | refine blk_drew ?_ | refine blk_alloc ?_ _)); exact BK.out)) : g1 ≠ g2)); clear BK HB; have BK := n0_; have HB := n1_; have BK2 := n2_; have GE2 := n3_; have NE := n4_; clear n0_ n1_ n2_ n3_ n4_; clear hb hbox hg; have ne1 := NE.out; have ne2 := NE.out.symm; have z0 : w5.cell? ⟨g2, 0, none⟩ = some (.bool false) := (blk_cell BK2.out 0).trans rfl; have z1 : w5.cell? ⟨g2, 1, none⟩ = some (.int .u64 0) := (blk_cell BK2.out 1).trans rfl; have z2 : w5.cell? ⟨g2, 2, none⟩ = some (.int .i64 0) := (blk_cell BK2.out 2).trans rfl; have f0 := blk_frozen BK2.out 0; have f1 := blk_frozen BK2.out 1; have f2 := blk_frozen BK2.out 2; have y0 : w5.cell? ⟨g1, 0, none⟩ = some (.bool false) := (blk_cell BK.out 0).trans rfl; have y1 : w5.cell? ⟨g1, 1, none⟩ = some (.int .u64 0) := (blk_cell BK.out 1).trans rfl; have y2 : w5.cell? ⟨g1, 2, none⟩ = some (.int .i64 0) := (blk_cell BK.out 2).trans rfl; have h0 := blk_frozen BK.out 0; have h1 := blk_frozen BK.out 1; have h2 := blk_frozen BK.out 2))
  refine bodyPost_ret (results_cell_row rfl _ _ g1 102 #[.bool neg, .int .u64 f, .int .i64 (-1074)] (0, 0) _ rfl (by refine blk_put (cs := #[.bool neg, .int .u64 f, .int .i64 0]) ?_ 2 _ rfl; refine blk_put (cs := #[.bool neg, .int .u64 0, .int .i64 0]) ?_ 1 _ rfl; refine blk_put (cs := #[.bool false, .int .u64 0, .int .i64 0]) ?_ 0 _ rfl; refine blk_far ?_ NE.out _; refine blk_far ?_ NE.out _; refine blk_far ?_ NE.out _; exact BK.out) Tryz.underlying102 rfl (by kernel_rfl)) rfl ?_
  exact ⟨rfl, by repeat (first | exact HB.out | refine below_set ?_ GE.out | refine below_set ?_ GE2.out)⟩
 ·obtain ⟨m, hm'⟩ : ∃ z : Int, f + 4503599627370496 = z := ⟨_, rfl⟩
  have hm : ((fmant a : Nat) : Int) = m := by unfold fmant; rw [if_neg c]; omega
  obtain ⟨e, he'⟩ : ∃ z : Int, x - 1075 = z := ⟨_, rfl⟩
  have hp : fpow a = e := by unfold fpow; rw [if_neg c]; omega
  rw [hm, hp]
  rw [hm'] at hor
  have c1 := decide_eq_true (show (0 : Int) < x by omega)
  obtain ⟨x1, hx1⟩ : ∃ z : Int, x - 1 = z := ⟨_, rfl⟩
  have hw2 : IntKind.i64.wrap (x - 1) = x1 := by rw [i64w_id (by omega) (by omega)]; exact hx1
  have hw3 : IntKind.i64.wrap (x1 + -1074) = e := by rw [i64w_id (by omega) (by omega)]; omega
  have hw2' : wrap64 (x - 1) = x1 := by rw [i64_id (by omega) (by omega)]; exact hx1
  have hw3' : wrap64 (x1 + -1074) = e := by rw [i64_id (by omega) (by omega)]; omega
  clear hx hx0 hf hneg haa hm hp c ha hm' he' hx1
  go_enter Tryz.func84, Tryz.ntmps84
  go_upto_region 4 with (first | ((with_reducible refine gate_dst (N := 2) rfl ?_); refine box_event ?hg (N := 2) ?hd (cs := #[.bool false, .int .u64 0, .int .i64 0]) (t := 102) ?hr ?_; (case hd => rfl); (case hg => rfl); (case hr => first | (go_simp; done) | (go_simp; rfl)); intro g1 hg w4 hbox hb; have n0_ := md_ (below_step HB.out hb); have n1_ := md_ hbox; have n2_ := md_ ((by rw [hg]; exact (below_size HB.out)) : w.heap.size ≤ g1); clear HB; have HB := n0_; have BK := n1_; have GE := n2_; clear n0_ n1_ n2_; clear hb hbox hg) | (go_at_call 109; (with_reducible refine (HN.out _).mono ?_); rintro e w' ⟨rfl, ⟨nd, rfl⟩⟩) | ((with_reducible refine gate_dst (N := 3) rfl ?_); refine box_event ?hg (N := 3) ?hd (cs := #[.bool false, .int .u64 0, .int .i64 0]) (t := 102) ?hr ?_; (case hd => rfl); (case hg => rfl); (case hr => first | (go_simp; done) | (go_simp; rfl)); intro g2 hg w5 hbox hb; have n0_ := md_ (blk_below (g := g1) (by (with_reducible repeat (first | refine blk_drewN ?_ _ | refine blk_drew ?_ | refine blk_alloc ?_ _)); exact BK.out) hb); have n1_ := md_ (below_step (by repeat (first | (with_reducible first | exact HB.out | apply below_alloc | apply pw_below_drewN | apply below_drew1) | exact HB.out)) hb); have n2_ := md_ hbox; have n3_ := md_ ((by rw [hg]; exact (below_size (by repeat (first | (with_reducible first | exact HB.out | apply below_alloc | apply pw_below_drewN | apply below_drew1) | exact HB.out))) : w.heap.size ≤ g2)); have n4_ := md_ ((by rw [hg]; exact Nat.ne_of_lt (blk_lt (g := g1) (by (with_reducible repeat (first | refine blk_drewN ?_ _ | refine blk_drew ?_ | refine blk_alloc ?_ _)); exact BK.out)) : g1 ≠ g2)); clear BK HB; have BK := n0_; have HB := n1_; have BK2 := n2_; have GE2 := n3_; have NE := n4_; clear n0_ n1_ n2_ n3_ n4_; clear hb hbox hg; have ne1 := NE.out; have ne2 := NE.out.symm; have z0 : w5.cell? ⟨g2, 0, none⟩ = some (.bool false) := (blk_cell BK2.out 0).trans rfl; have z1 : w5.cell? ⟨g2, 1, none⟩ = some (.int .u64 0) := (blk_cell BK2.out 1).trans rfl; have z2 : w5.cell? ⟨g2, 2, none⟩ = some (.int .i64 0) := (blk_cell BK2.out 2).trans rfl; have f0 := blk_frozen BK2.out 0; have f1 := blk_frozen BK2.out 1; have f2 := blk_frozen BK2.out 2; have y0 : w5.cell? ⟨g1, 0, none⟩ = some (.bool false) := (blk_cell BK.out 0).trans rfl; have y1 : w5.cell? ⟨g1, 1, none⟩ = some (.int .u64 0) := (blk_cell BK.out 1).trans rfl; have y2 : w5.cell? ⟨g1, 2, none⟩ = some (.int .i64 0) := (blk_cell BK.out 2).trans rfl; have h0 := blk_frozen BK.out 0; have h1 := blk_frozen BK.out 1; have h2 := blk_frozen BK.out 2))
  generalize hW : World.setCell _ _ _ = w6
  replace BK2 := md_ (show w6.heap[g2]? = some (.cells #[.bool neg, .int .u64 f, .int .i64 (-1074)] 102 (0, 0)) by rw [← hW]; refine blk_put (cs := #[.bool neg, .int .u64 f, .int .i64 0]) ?_ 2 _ rfl; refine blk_put (cs := #[.bool neg, .int .u64 0, .int .i64 0]) ?_ 1 _ rfl; refine blk_put (cs := #[.bool false, .int .u64 0, .int .i64 0]) ?_ 0 _ rfl; exact BK2.out)
  replace BK := md_ (show w6.heap[g1]? = some (.cells #[.bool false, .int .u64 0, .int .i64 0] 102 (0, 0)) by rw [← hW]; refine blk_far ?_ NE.out _; refine blk_far ?_ NE.out _; refine blk_far ?_ NE.out _; exact BK.out)
  replace HB := md_ (show Below w.heap.size w w6 by rw [← hW]; repeat (first | exact HB.out | refine below_set ?_ GE2.out))
  clear hW z0 z1 z2 f0 f1 f2 y0 y1 y2 h0 h1 h2
  have z1 : w6.cell? ⟨g2, 1, none⟩ = some (.int .u64 f) := (blk_cell BK2.out 1).trans rfl
  have f1 := blk_frozen BK2.out 1
  go_upto_region 5 with (go_at_call 9999; skip)
  generalize hW : World.setCell _ _ _ = w7
  replace BK2 := md_ (show w7.heap[g2]? = some (.cells #[.bool neg, .int .u64 m, .int .i64 (-1074)] 102 (0, 0)) by rw [← hW]; refine blk_put (cs := #[.bool neg, .int .u64 f, .int .i64 (-1074)]) ?_ 1 _ rfl; exact BK2.out)
  replace BK := md_ (show w7.heap[g1]? = some (.cells #[.bool false, .int .u64 0, .int .i64 0] 102 (0, 0)) by rw [← hW]; refine blk_far ?_ NE.out _; exact BK.out)
  replace HB := md_ (show Below w.heap.size w w7 by rw [← hW]; repeat (first | exact HB.out | refine below_set ?_ GE2.out))
  clear hW z1 f1
  have f2 := blk_frozen BK2.out 2
  have z2 : w7.cell? ⟨g2, 2, none⟩ = some (.int .i64 (-1074)) := (blk_cell BK2.out 2).trans rfl
  go_upto_region 6 with (go_at_call 9999; skip)
  generalize hW : World.setCell _ _ _ = w8
  replace BK2 := md_ (show w8.heap[g2]? = some (.cells #[.bool neg, .int .u64 m, .int .i64 e] 102 (0, 0)) by rw [← hW]; refine blk_put (cs := #[.bool neg, .int .u64 m, .int .i64 (-1074)]) ?_ 2 _ rfl; exact BK2.out)
  replace BK := md_ (show w8.heap[g1]? = some (.cells #[.bool false, .int .u64 0, .int .i64 0] 102 (0, 0)) by rw [← hW]; refine blk_far ?_ NE.out _; exact BK.out)
  replace HB := md_ (show Below w.heap.size w w8 by rw [← hW]; repeat (first | exact HB.out | refine below_set ?_ GE2.out))
  clear hW z2 f2
  have z0 : w8.cell? ⟨g2, 0, none⟩ = some (.bool neg) := (blk_cell BK2.out 0).trans rfl
  have z1 : w8.cell? ⟨g2, 1, none⟩ = some (.int .u64 m) := (blk_cell BK2.out 1).trans rfl
  have z2 : w8.cell? ⟨g2, 2, none⟩ = some (.int .i64 e) := (blk_cell BK2.out 2).trans rfl
  have y0 : w8.cell? ⟨g1, 0, none⟩ = some (.bool false) := (blk_cell BK.out 0).trans rfl
  have y1 : w8.cell? ⟨g1, 1, none⟩ = some (.int .u64 0) := (blk_cell BK.out 1).trans rfl
  have y2 : w8.cell? ⟨g1, 2, none⟩ = some (.int .i64 0) := (blk_cell BK.out 2).trans rfl
  have h0 := blk_frozen BK.out 0
  have h1 := blk_frozen BK.out 1
  have h2 := blk_frozen BK.out 2
  go_wp2
  refine bodyPost_ret (results_cell_row rfl _ _ g1 102 #[.bool neg, .int .u64 m, .int .i64 e] (0, 0) _ rfl (by refine blk_put (cs := #[.bool neg, .int .u64 m, .int .i64 0]) ?_ 2 _ rfl; refine blk_put (cs := #[.bool neg, .int .u64 0, .int .i64 0]) ?_ 1 _ rfl; refine blk_put (cs := #[.bool false, .int .u64 0, .int .i64 0]) ?_ 0 _ rfl; exact BK.out) Tryz.underlying102 rfl (by kernel_rfl)) rfl ?_
  exact ⟨rfl, by repeat (first | exact HB.out | refine below_set ?_ GE.out | refine below_set ?_ GE2.out)⟩
end Go.Proofs.YtdoeigngpemcgaaGreatDoor.Dec
namespace Go.Num
end Go.Num
namespace Go.Proofs.YtdoeigngpemcgaaGreatDoor.PNat
open Go.RowKit YtdoeigngpemcgaaGreatDoorW.PrintWords YtdoeigngpemcgaaGreatDoorW.PrintLast YtdoeigngpemcgaaGreatDoorW.PrintMore
attribute [local go_sem] max2_int min2_int max_two min_two max_three min_three max_four min_four
theorem ow_C_len {α : Type} {d : Kd α} {w : World} {A : Option Addr} {n m : Nat} {xs : List α} (h : n = m) (hc : d.C w A n xs) : d.C w A m xs := h ▸ hc
end Go.Proofs.YtdoeigngpemcgaaGreatDoor.PNat
namespace Go.Proofs
open Go.Shelf
end Go.Proofs
namespace Go.Proofs.YtdoeigngpemcgaaGreatDoor.PNat
open Go.RowKit YtdoeigngpemcgaaGreatDoorW.PrintWords YtdoeigngpemcgaaGreatDoorW.PrintLast YtdoeigngpemcgaaGreatDoorW.PrintMore
attribute [local go_sem] max2_int min2_int max_two min_two max_three min_three max_four min_four
def bobbinref2_Norm.l0 : Nat → List Int → Int → Option (List Int)
 | 0, _, _ => none
 | k + 1, x0, x3 => if x3 > 0 then (if 0 ≤ (wrap64 (x3 - 1)) then (if (wrap64 (x3 - 1)) < (x0.length : Int) then (if (rd x0 (wrap64 (x3 - 1))) = 0 then (bobbinref2_Norm.l0 k x0 (wrap64 (x3 - 1))) else (if 0 ≤ x3 then (if x3 ≤ (x0.length : Int) then (if ([] : List Int).length + (x0.take (x3 : Int).toNat).length < 35184372088832 then (some (([] : List Int) ++ (x0.take (x3 : Int).toNat))) else (none)) else (none)) else (none))) else (none)) else (none)) else (if 0 ≤ x3 then (if x3 ≤ (x0.length : Int) then (if ([] : List Int).length + (x0.take (x3 : Int).toNat).length < 35184372088832 then (some (([] : List Int) ++ (x0.take (x3 : Int).toNat))) else (none)) else (none)) else (none))
def bobbinref2_Norm.f (k : Nat) (l0 : List Int) : Option (List Int) := bobbinref2_Norm.l0 k l0 (l0.length : Int)
set_option maxRecDepth 100000 in
theorem bobbinref2_Norm.calls (k : Nat) (A0 : Option Addr) (c0 : Nat) (l0 : List Int) (r : List Int) (w : World) (hr0 : Kd.C (Kd.int .u32) w A0 l0.length l0) (hc0 : l0.length ≤ c0) (h : bobbinref2_Norm.f k l0 = some r) :
  Calls Tryz.prog 99 #[.slice A0 l0.length c0] w fun e w' => ∃ v0_ : Value, e = .returned (v0_) ∧ Kd.R (Kd.int .u32) 35 w' w.heap.size (fun _ => True) v0_ r ∧ Below w.heap.size w w' := by
 have HR0 := md_ hr0
 have HC0 := md_ hc0
 clear hr0 hc0
 have HB := md_ (Below.refl w.heap.size w)
 have H : (bobbinref2_Norm.l0 k l0 (l0.length : Int)) = some r := h
 clear h
 have H' := md_ H
 clear H
 go_enter Tryz.func99, Tryz.ntmps99
 go_wp2
 go_loopg [3] k (fun kq v3 w' => ∃ (x3_1 : Int), v3 = .int .i64 x3_1 ∧ Aside0 (bobbinref2_Norm.l0 kq l0 x3_1 = some r) ∧ Aside0 (kq ≤ k) ∧ Aside0 (Below w.heap.size w w'))
 case atStart => exact ⟨((l0.length : Int)), aq_, H', ⟨Nat.le_refl _⟩, ⟨bq_ HB.out⟩⟩
 case round =>
  clear H'
  obtain ⟨x3_1, rfl, HA, HK1, HB⟩ := hrel
  cases gk with
  | zero => exact absurd HA.out (by simp [bobbinref2_Norm.l0])
  | succ k1 =>
   have H := HA.out
   clear HA
   simp only [bobbinref2_Norm.l0] at H
   by_cases c2 : x3_1 > 0
   ·rw [if_pos c2] at H
    have c2b0 : decide (0 < x3_1) = true := decide_eq_true c2
    clear c2
    obtain ⟨ji3, hji3⟩ : ∃ j_ : Int, (wrap64 (x3_1 - 1)) = j_ := ⟨_, rfl⟩
    first | rw [hji3] at H | simp only [hji3] at H
    have hji3w : (IntKind.i64.wrap (x3_1 - 1)) = ji3 := (i64_w _).trans hji3
    obtain ⟨c4b0, H⟩ := od_ H
    obtain ⟨c5b0, H⟩ := od_ H
    by_cases c6 : (rd l0 (ji3)) = 0
    ·rw [if_pos c6] at H
     have c6b0 : ((rd l0 (ji3)) == 0) = true := beq_iff_eq.mpr c6
     have c6b1 : ((rd l0 (ji3)) != 0) = false := bne_eq_false_iff_eq.mpr c6
     clear c6
     have H' := md_ H
     clear H
     have p139 : 0 ≤ ((ji3) : Int) := oq_
     have q139 : (ji3) < (l0.length : Int) := oq_
     obtain ⟨ad139, e139, hx139_0⟩ := Kd.at_int HR0.out (ji3) p139 q139
     cases e139
     replace hx139_0 := (HB.out.cell (World.block_lt_of_cell? w _ hx139_0)).trans hx139_0
     replace p139 := eq_true p139
     replace q139 := eq_true q139
     go_wp2
     go_roundg k1
     case measure => have := HK1.out; omega
     case rel => exact ⟨(ji3), (by first | rfl | (simp; done) | (simp only [← hji3] <;> (first | rfl | simp)) | (simp [*]; done)), H', ⟨by have := HK1.out; omega⟩, ⟨bq_ HB.out⟩⟩
    ·rw [if_neg c6] at H
     have c6b0 : ((rd l0 (ji3)) == 0) = false := beq_eq_false_iff_ne.mpr c6
     have c6b1 : ((rd l0 (ji3)) != 0) = true := bne_iff_ne.mpr c6
     obtain ⟨c7, H⟩ := oi_ H
     have c7b0 := eq_true c7
     have c7b1 : decide (0 ≤ x3_1) = true := decide_eq_true c7
     clear c7
     obtain ⟨c8, H⟩ := oi_ H
     have c8b0 := eq_true c8
     have c8b1 : decide (x3_1 ≤ (l0.length : Int)) = true := decide_eq_true c8
     clear c8
     obtain ⟨c9, H⟩ := oi_ H
     have LMc9 := md_ c9
     clear c9
     obtain ⟨y141, hy141⟩ : ∃ y_ : List Int, y_ = (([] : List Int) ++ (l0.take (x3_1 : Int).toNat)) := ⟨_, rfl⟩
     replace H : (some y141) = some r := by first | (rw [hy141]; with_reducible exact H) | (have H2_ := (Option.bind_some _ _).symm.trans H; rw [hy141]; with_reducible exact H2_) | (have H2_ := (Option.bind_some _ _).symm.trans H; with_reducible exact H2_) | with_reducible exact H | (rw [hy141]; exact H) | exact H
     have Ny141 := md_ hy141
     clear hy141
     obtain rfl := Option.some.inj H
     have p139 : 0 ≤ ((ji3) : Int) := oq_
     have q139 : (ji3) < (l0.length : Int) := oq_
     obtain ⟨ad139, e139, hx139_0⟩ := Kd.at_int HR0.out (ji3) p139 q139
     cases e139
     replace hx139_0 := (HB.out.cell (World.block_lt_of_cell? w _ hx139_0)).trans hx139_0
     replace p139 := eq_true p139
     replace q139 := eq_true q139
     obtain ⟨i010, hi010, _, hsz10, _⟩ := info_parts info35
     obtain ⟨hcut10, hA10, hC10⟩ := print_take_of (P := Tryz.prog) (Value.int .u32) 0 58 35 .i64 Tryz.underlying58 hi010 hsz10 (some ad139) c0 l0 x3_1 oq_ oq_ HC0.out
     have HR140 := md_ (Kd.C_of_reads (h1 := fun _ => rfl) (hA10 _ (Kd.reads_of_C HR0.out)))
     have HC140 := md_ hC10
     clear hA10 hC10 hi010 hsz10
     go_wp2_with (first | ((with_reducible refine gate_builtin (b := .append) (xs := #[.tmp 19, .tmp 22]) rfl ?_); at_builtin; refine Kd.R_append_rows (Kd.int .u32) (w0 := w) w.heap.size rfl (.tmp 19) (.tmp 22) 58 35 (.int .u32 0) 4 rfl Tryz.underlying58 info35 rfl (by decide) (by omega) (.slice none 0 0) ([] : List Int) (l0.take (x3_1 : Int).toNat) _ _ _ (fun _ => True) (fun _ => False) rfl rfl ?aO ?aR (fun _ _ h => h) (fun _ h => h.elim) ?aF ?aB ?aS ?aL ?_; (case aR => first | (rw [← show (l0.take (x3_1 : Int).toNat).length = x3_1.toNat from (by rw [List.length_take]; have h_ : (x3_1 : Int) ≤ (l0.length : Int) := oq_; omega)]; fail) | (refine ow_C_len (d := (Kd.int .u32)) (show (l0.take (x3_1 : Int).toNat).length = x3_1.toNat from (by rw [List.length_take]; have h_ : (x3_1 : Int) ≤ (l0.length : Int) := oq_; omega)) ?_; repeat (first | exact (Kd.C_below HR140.out HB.out) | (with_reducible refine Kd.C_alloc ?_ _) | (with_reducible refine Kd.C_drewN ?_ _) | (with_reducible refine Kd.C_drew ?_)))); (case aB => exact (bq_ HB.out)); (case aF => exact (fun _ _ => trivial)); (case aO => exact ((Kd.R_nil _ _ _ _ (fun _ => True)))); (case aS => exact (below_size (bq_ HB.out))); (case aL => have := LMc9.out; have hlx_ := (show (l0.take (x3_1 : Int).toNat).length = x3_1.toNat from (by rw [List.length_take]; have h_ : (x3_1 : Int) ≤ (l0.length : Int) := oq_; omega)); omega); intro v142 w11 ho hb hg hat; rw [← Ny141.out] at ho; replace HB := md_ (hb); have HO143 := md_ (ho); clear ho hb hg hat))
     go_ret
     exact ⟨_, by first | rfl | (simp [errW_none, errW_some] <;> rfl) | (simp only [← hji3]; first | rfl | (simp [errW_none, errW_some] <;> rfl)) | (simp [*, errW_none, errW_some] <;> rfl), rq_ HO143.out, bq_ HB.out⟩
   ·rw [if_neg c2] at H
    have c2b0 : decide (0 < x3_1) = false := decide_eq_false c2
    clear c2
    obtain ⟨c12, H⟩ := oi_ H
    have c12b0 := eq_true c12
    have c12b1 : decide (0 ≤ x3_1) = true := decide_eq_true c12
    clear c12
    obtain ⟨c13, H⟩ := oi_ H
    have c13b0 := eq_true c13
    have c13b1 : decide (x3_1 ≤ (l0.length : Int)) = true := decide_eq_true c13
    clear c13
    obtain ⟨c14, H⟩ := oi_ H
    have LMc14 := md_ c14
    clear c14
    obtain ⟨y145, hy145⟩ : ∃ y_ : List Int, y_ = (([] : List Int) ++ (l0.take (x3_1 : Int).toNat)) := ⟨_, rfl⟩
    replace H : (some y145) = some r := by first | (rw [hy145]; with_reducible exact H) | (have H2_ := (Option.bind_some _ _).symm.trans H; rw [hy145]; with_reducible exact H2_) | (have H2_ := (Option.bind_some _ _).symm.trans H; with_reducible exact H2_) | with_reducible exact H | (rw [hy145]; exact H) | exact H
    have Ny145 := md_ hy145
    clear hy145
    obtain rfl := Option.some.inj H
    obtain ⟨i015, hi015, _, hsz15, _⟩ := info_parts info35
    obtain ⟨hcut15, hA15, hC15⟩ := print_take_of (P := Tryz.prog) (Value.int .u32) 0 58 35 .i64 Tryz.underlying58 hi015 hsz15 A0 c0 l0 x3_1 oq_ oq_ HC0.out
    have HR144 := md_ (Kd.C_of_reads (h1 := fun _ => rfl) (hA15 _ (Kd.reads_of_C HR0.out)))
    have HC144 := md_ hC15
    clear hA15 hC15 hi015 hsz15
    go_wp2_with (first | ((with_reducible refine gate_builtin (b := .append) (xs := #[.tmp 19, .tmp 22]) rfl ?_); at_builtin; refine Kd.R_append_rows (Kd.int .u32) (w0 := w) w.heap.size rfl (.tmp 19) (.tmp 22) 58 35 (.int .u32 0) 4 rfl Tryz.underlying58 info35 rfl (by decide) (by omega) (.slice none 0 0) ([] : List Int) (l0.take (x3_1 : Int).toNat) _ _ _ (fun _ => True) (fun _ => False) rfl rfl ?aO ?aR (fun _ _ h => h) (fun _ h => h.elim) ?aF ?aB ?aS ?aL ?_; (case aR => first | (rw [← show (l0.take (x3_1 : Int).toNat).length = x3_1.toNat from (by rw [List.length_take]; have h_ : (x3_1 : Int) ≤ (l0.length : Int) := oq_; omega)]; fail) | (refine ow_C_len (d := (Kd.int .u32)) (show (l0.take (x3_1 : Int).toNat).length = x3_1.toNat from (by rw [List.length_take]; have h_ : (x3_1 : Int) ≤ (l0.length : Int) := oq_; omega)) ?_; repeat (first | exact (Kd.C_below HR144.out HB.out) | (with_reducible refine Kd.C_alloc ?_ _) | (with_reducible refine Kd.C_drewN ?_ _) | (with_reducible refine Kd.C_drew ?_)))); (case aB => exact (bq_ HB.out)); (case aF => exact (fun _ _ => trivial)); (case aO => exact ((Kd.R_nil _ _ _ _ (fun _ => True)))); (case aS => exact (below_size (bq_ HB.out))); (case aL => have := LMc14.out; have hlx_ := (show (l0.take (x3_1 : Int).toNat).length = x3_1.toNat from (by rw [List.length_take]; have h_ : (x3_1 : Int) ≤ (l0.length : Int) := oq_; omega)); omega); intro v146 w16 ho hb hg hat; rw [← Ny145.out] at ho; replace HB := md_ (hb); have HO147 := md_ (ho); clear ho hb hg hat))
    go_ret
    exact ⟨_, ew_, rq_ HO147.out, bq_ HB.out⟩
def bobbinref2_trimmed.l0 : Nat → List Int → Int → Option (List Int)
 | 0, _, _ => none
 | k + 1, x0, x3 => if x3 > 0 then (if 0 ≤ (wrap64 (x3 - 1)) then (if (wrap64 (x3 - 1)) < (x0.length : Int) then (if (rd x0 (wrap64 (x3 - 1))) = 0 then (bobbinref2_trimmed.l0 k x0 (wrap64 (x3 - 1))) else (if 0 ≤ x3 then (if x3 ≤ (x0.length : Int) then (some (x0.take (x3 : Int).toNat)) else (none)) else (none))) else (none)) else (none)) else (if 0 ≤ x3 then (if x3 ≤ (x0.length : Int) then (some (x0.take (x3 : Int).toNat)) else (none)) else (none))
def bobbinref2_trimmed.f (k : Nat) (l0 : List Int) : Option (List Int) := bobbinref2_trimmed.l0 k l0 (l0.length : Int)
set_option maxRecDepth 100000 in
theorem bobbinref2_trimmed.calls (k : Nat) (P0_ : Nat → Prop) (A0 : Option Addr) (c0 : Nat) (l0 : List Int) (r : List Int) (w : World) (hs0 : Kd.V (Kd.int .u32) 35 w w.heap.size (fun k_ => P0_ k_) (.slice A0 l0.length c0) l0) (h : bobbinref2_trimmed.f k l0 = some r) :
  Calls Tryz.prog 101 #[.slice A0 l0.length c0] w fun e w' => ∃ v0_ : Value, e = .returned (v0_) ∧ Kd.V (Kd.int .u32) 35 w' w.heap.size (fun k_ => (P0_ k_ ∨ w.heap.size ≤ k_)) v0_ r ∧ Below w.heap.size w w' := by
 have HO0 := md_ (show Kd.V (Kd.int .u32) 35 w w.heap.size (fun k_ => (P0_ k_ ∨ w.heap.size ≤ k_)) (.slice A0 l0.length c0) l0 from Kd.V_mono hs0 (fun k_ hk => .inl hk))
 have HB := md_ (Below.refl w.heap.size w)
 have H : (bobbinref2_trimmed.l0 k l0 (l0.length : Int)) = some r := h
 clear h
 have H' := md_ H
 clear H
 go_enter Tryz.func101, Tryz.ntmps101
 go_wp2
 go_loopg [3] k (fun kq v3 w' => ∃ (x3_1 : Int), v3 = .int .i64 x3_1 ∧ Aside0 (bobbinref2_trimmed.l0 kq l0 x3_1 = some r) ∧ Aside0 (kq ≤ k) ∧ Aside0 (Kd.V (Kd.int .u32) 35 w' w.heap.size (fun k_ => (P0_ k_ ∨ w.heap.size ≤ k_)) (.slice A0 l0.length c0) l0) ∧ Aside0 (Below w.heap.size w w'))
 case atStart => exact ⟨((l0.length : Int)), aq_, H', ⟨Nat.le_refl _⟩, ⟨vq_ HO0.out⟩, ⟨bq_ HB.out⟩⟩
 case round =>
  clear H'
  obtain ⟨x3_1, rfl, HA, HK1, HO_0, HB⟩ := hrel
  cases gk with
  | zero => exact absurd HA.out (by simp [bobbinref2_trimmed.l0])
  | succ k1 =>
   have H := HA.out
   clear HA
   simp only [bobbinref2_trimmed.l0] at H
   by_cases c2 : x3_1 > 0
   ·rw [if_pos c2] at H
    have c2b0 : decide (0 < x3_1) = true := decide_eq_true c2
    clear c2
    obtain ⟨ji3, hji3⟩ : ∃ j_ : Int, (wrap64 (x3_1 - 1)) = j_ := ⟨_, rfl⟩
    first | rw [hji3] at H | simp only [hji3] at H
    have hji3w : (IntKind.i64.wrap (x3_1 - 1)) = ji3 := (i64_w _).trans hji3
    obtain ⟨c4b0, H⟩ := od_ H
    obtain ⟨c5b0, H⟩ := od_ H
    by_cases c6 : (rd l0 (ji3)) = 0
    ·rw [if_pos c6] at H
     have c6b0 : ((rd l0 (ji3)) == 0) = true := beq_iff_eq.mpr c6
     have c6b1 : ((rd l0 (ji3)) != 0) = false := bne_eq_false_iff_eq.mpr c6
     clear c6
     have H' := md_ H
     clear H
     have p156 : 0 ≤ ((ji3) : Int) := oq_
     have q156 : (ji3) < (l0.length : Int) := oq_
     obtain ⟨ad156, e156, hx156_0⟩ := Kd.at_int (Kd.V_reads' HO_0.out).2.2 (ji3) p156 q156
     cases e156
     replace p156 := eq_true p156
     replace q156 := eq_true q156
     go_wp2
     go_roundg k1
     case measure => have := HK1.out; omega
     case rel => exact ⟨(ji3), (by first | rfl | (simp; done) | (simp only [← hji3] <;> (first | rfl | simp)) | (simp [*]; done)), H', ⟨by have := HK1.out; omega⟩, ⟨vq_ HO_0.out⟩, ⟨bq_ HB.out⟩⟩
    ·rw [if_neg c6] at H
     have c6b0 : ((rd l0 (ji3)) == 0) = false := beq_eq_false_iff_ne.mpr c6
     have c6b1 : ((rd l0 (ji3)) != 0) = true := bne_iff_ne.mpr c6
     obtain ⟨c7, H⟩ := oi_ H
     have c7b0 := eq_true c7
     have c7b1 : decide (0 ≤ x3_1) = true := decide_eq_true c7
     clear c7
     obtain ⟨c8, H⟩ := oi_ H
     have c8b0 := eq_true c8
     have c8b1 : decide (x3_1 ≤ (l0.length : Int)) = true := decide_eq_true c8
     clear c8
     obtain ⟨y157, hy157⟩ : ∃ y_ : List Int, y_ = (l0.take (x3_1 : Int).toNat) := ⟨_, rfl⟩
     replace H : (some y157) = some r := by first | (rw [hy157]; with_reducible exact H) | (have H2_ := (Option.bind_some _ _).symm.trans H; rw [hy157]; with_reducible exact H2_) | (have H2_ := (Option.bind_some _ _).symm.trans H; with_reducible exact H2_) | with_reducible exact H | (rw [hy157]; exact H) | exact H
     have Ny157 := md_ hy157
     clear hy157
     obtain rfl := Option.some.inj H
     have p156 : 0 ≤ ((ji3) : Int) := oq_
     have q156 : (ji3) < (l0.length : Int) := oq_
     obtain ⟨ad156, e156, hx156_0⟩ := Kd.at_int (Kd.V_reads' HO_0.out).2.2 (ji3) p156 q156
     cases e156
     replace p156 := eq_true p156
     replace q156 := eq_true q156
     have q9 : (x3_1 : Int) ≤ ((l0.length : Int) : Int) := oq_
     obtain ⟨i09, hi09, _, hsz9, _⟩ := info_parts info35
     have hroom9 : l0.length ≤ c0 := (Kd.V_reads' HO_0.out).2.1
     have hC9 : Kd.F (Kd.int .u32) _ _ (some ad156) l0.length l0 := (Kd.V_at (base := w.heap.size) HO_0.out).2.2
     have hcut9 := cut_to (P := Tryz.prog) 58 35 .i64 Tryz.underlying58 hi09 (some ad156) l0.length c0 x3_1 oq_ q9 hroom9
     have hr9 := Kd.F_take (m := (x3_1 : Int).toNat) hC9 (by omega)
     have hy9 : y157.length = (x3_1 : Int).toNat := (by rw [Ny157.out, List.length_take]; omega)
     rw [← Ny157.out] at hr9
     rw [← hy9] at hcut9
     have HO161 := md_ (show Kd.V (Kd.int .u32) 35 _ w.heap.size _ (.slice (some ad156) y157.length c0) y157 from Kd.V_mk (by omega) hr9)
     have HC161 := md_ (show y157.length ≤ c0 from by omega)
     clear hr9 hC9 hroom9 hi09 hsz9
     have KY9 := md_ hy9
     clear hy9
     replace q9 := eq_true q9
     go_wp2
     go_ret
     exact ⟨_, by first | rfl | (simp [errW_none, errW_some] <;> rfl) | (simp only [← hji3]; first | rfl | (simp [errW_none, errW_some] <;> rfl)) | (simp [*, errW_none, errW_some] <;> rfl), vq_ HO161.out, bq_ HB.out⟩
   ·rw [if_neg c2] at H
    have c2b0 : decide (0 < x3_1) = false := decide_eq_false c2
    clear c2
    obtain ⟨c10, H⟩ := oi_ H
    have c10b0 := eq_true c10
    have c10b1 : decide (0 ≤ x3_1) = true := decide_eq_true c10
    clear c10
    obtain ⟨c11, H⟩ := oi_ H
    have c11b0 := eq_true c11
    have c11b1 : decide (x3_1 ≤ (l0.length : Int)) = true := decide_eq_true c11
    clear c11
    obtain ⟨y162, hy162⟩ : ∃ y_ : List Int, y_ = (l0.take (x3_1 : Int).toNat) := ⟨_, rfl⟩
    replace H : (some y162) = some r := by first | (rw [hy162]; with_reducible exact H) | (have H2_ := (Option.bind_some _ _).symm.trans H; rw [hy162]; with_reducible exact H2_) | (have H2_ := (Option.bind_some _ _).symm.trans H; with_reducible exact H2_) | with_reducible exact H | (rw [hy162]; exact H) | exact H
    have Ny162 := md_ hy162
    clear hy162
    obtain rfl := Option.some.inj H
    have q12 : (x3_1 : Int) ≤ ((l0.length : Int) : Int) := oq_
    obtain ⟨i012, hi012, _, hsz12, _⟩ := info_parts info35
    have hroom12 : l0.length ≤ c0 := (Kd.V_reads' HO_0.out).2.1
    have hC12 : Kd.F (Kd.int .u32) _ _ A0 l0.length l0 := (Kd.V_at (base := w.heap.size) HO_0.out).2.2
    have hcut12 := cut_to (P := Tryz.prog) 58 35 .i64 Tryz.underlying58 hi012 A0 l0.length c0 x3_1 oq_ q12 hroom12
    have hr12 := Kd.F_take (m := (x3_1 : Int).toNat) hC12 (by omega)
    have hy12 : y162.length = (x3_1 : Int).toNat := (by rw [Ny162.out, List.length_take]; omega)
    rw [← Ny162.out] at hr12
    rw [← hy12] at hcut12
    have HO166 := md_ (show Kd.V (Kd.int .u32) 35 _ w.heap.size _ (.slice A0 y162.length c0) y162 from Kd.V_mk (by omega) hr12)
    have HC166 := md_ (show y162.length ≤ c0 from by omega)
    clear hr12 hC12 hroom12 hi012 hsz12
    have KY12 := md_ hy12
    clear hy12
    replace q12 := eq_true q12
    go_wp2
    go_ret
    exact ⟨_, ew_, vq_ HO166.out, bq_ HB.out⟩
mutual
def bobbinref2_Add.l0 : Nat → List Int → List Int → List Int → Int → Int → Option (List Int)
 | 0, _, _, _, _, _ => none
 | k + 1, x0, x1, x5, x6, x7 => if x7 < (x0.length : Int) then (bobbinref2_Add.j1 k x0 x1 x5 x6 x7 true) else (bobbinref2_Add.j1 k x0 x1 x5 x6 x7 (decide (x7 < (x1.length : Int))))
def bobbinref2_Add.j1 : Nat → List Int → List Int → List Int → Int → Int → Bool → Option (List Int)
 | 0, _, _, _, _, _, _ => none
 | k + 1, x0, x1, x5, x6, x7, x17 => if x17 = true then (if x7 < (x0.length : Int) then (if 0 ≤ x7 then (if x7 < (x1.length : Int) then (if x5.length < 35184372088832 then (bobbinref2_Add.l0 k x0 x1 (x5 ++ [(IntKind.u64.wrap ((IntKind.u64.wrap (x6 + (IntKind.u64.wrap (rd x0 x7)))) + (IntKind.u64.wrap (rd x1 x7)))) % 4294967296]) ((IntKind.u64.wrap ((IntKind.u64.wrap (x6 + (IntKind.u64.wrap (rd x0 x7)))) + (IntKind.u64.wrap (rd x1 x7)))) / 4294967296) (wrap64 (x7 + 1))) else (none)) else (if x5.length < 35184372088832 then (bobbinref2_Add.l0 k x0 x1 (x5 ++ [(IntKind.u64.wrap (x6 + (IntKind.u64.wrap (rd x0 x7)))) % 4294967296]) ((IntKind.u64.wrap (x6 + (IntKind.u64.wrap (rd x0 x7)))) / 4294967296) (wrap64 (x7 + 1))) else (none))) else (none)) else (if x7 < (x1.length : Int) then (if 0 ≤ x7 then (if x5.length < 35184372088832 then (bobbinref2_Add.l0 k x0 x1 (x5 ++ [(IntKind.u64.wrap (x6 + (IntKind.u64.wrap (rd x1 x7)))) % 4294967296]) ((IntKind.u64.wrap (x6 + (IntKind.u64.wrap (rd x1 x7)))) / 4294967296) (wrap64 (x7 + 1))) else (none)) else (none)) else (if x5.length < 35184372088832 then (bobbinref2_Add.l0 k x0 x1 (x5 ++ [(x6) % 4294967296]) (x6 / 4294967296) (wrap64 (x7 + 1))) else (none)))) else (if x5.length < 35184372088832 then ((bobbinref2_Norm.f k (x5 ++ [(x6) % 4294967296])).bind fun t440 => (some t440)) else (none))
end
def bobbinref2_Add.f (k : Nat) (l0 : List Int) (l1 : List Int) : Option (List Int) := bobbinref2_Add.l0 k l0 l1 ([] : List Int) 0 0
set_option maxRecDepth 100000 in
theorem bobbinref2_Add.calls (k : Nat) (A0 : Option Addr) (c0 : Nat) (l0 : List Int) (A1 : Option Addr) (c1 : Nat) (l1 : List Int) (r : List Int) (w : World) (hr0 : Kd.C (Kd.int .u32) w A0 l0.length l0) (hc0 : l0.length ≤ c0) (hr1 : Kd.C (Kd.int .u32) w A1 l1.length l1) (hc1 : l1.length ≤ c1) (h : bobbinref2_Add.f k l0 l1 = some r) :
  Calls Tryz.prog 104 #[.slice A0 l0.length c0, .slice A1 l1.length c1] w fun e w' => ∃ v0_ : Value, e = .returned (v0_) ∧ Kd.R (Kd.int .u32) 35 w' w.heap.size (fun _ => True) v0_ r ∧ Below w.heap.size w w' := by
 have HR0 := md_ hr0
 have HC0 := md_ hc0
 clear hr0 hc0
 have HR1 := md_ hr1
 have HC1 := md_ hc1
 clear hr1 hc1
 have HB := md_ (Below.refl w.heap.size w)
 have H : (bobbinref2_Add.l0 k l0 l1 ([] : List Int) 0 0) = some r := h
 clear h
 have H' := md_ H
 clear H
 go_enter Tryz.func104, Tryz.ntmps104
 go_wp2
 go_loopg [5, 6, 7] k (fun kq v5 v6 v7 w' => ∃ (x5_1 : List Int) (x6_1 : Int) (x7_1 : Int), v6 = .int .u64 x6_1 ∧ v7 = .int .i64 x7_1 ∧ Aside0 (bobbinref2_Add.l0 kq l0 l1 x5_1 x6_1 x7_1 = some r) ∧ Aside0 (kq ≤ k) ∧ Aside0 (Kd.R (Kd.int .u32) 35 w' w.heap.size (fun _ => True) v5 x5_1) ∧ Aside0 (Below w.heap.size w w'))
 case atStart => exact ⟨(([] : List Int)), (0), (0), aq_, aq_, H', ⟨Nat.le_refl _⟩, ⟨by first | exact Kd.R_nil _ _ _ _ _ | exact Kd.R_nil _ 35 _ 0 (fun _ => False) | exact Kd.R_nil _ 35 _ 0 _ | exact Kd.R_nil _ _ _ _ _ | exact Kd.N_nil _ _ _ _ _ | exact Kd.V_nil _ _ _ _ _ | exact Kd.Q_nil _ _ _ _ _ | exact Kd.S_nil _ _ _ _ _⟩, ⟨bq_ HB.out⟩⟩
 case round =>
  clear H'
  (try clear c1); (try clear c2); (try clear p2)
  obtain ⟨x5_1, x6_1, x7_1, rfl, rfl, HA, HK1, HO_5, HB⟩ := hrel
  cases gk with
  | zero => exact absurd HA.out (by simp [bobbinref2_Add.l0])
  | succ k1 =>
   have H := HA.out
   clear HA
   simp only [bobbinref2_Add.l0] at H
   have HC3 := md_ H
   clear H
   go_upto_region 4 with (fail)
   go_cut [17] (fun v17 wc => ∃ (kq : Nat) (x17_2 : Bool), v17 = .bool x17_2 ∧ Aside0 (bobbinref2_Add.j1 kq l0 l1 x5_1 x6_1 x7_1 x17_2 = some r) ∧ Aside0 (kq ≤ k1) ∧ Aside0 (Kd.R (Kd.int .u32) 35 wc w.heap.size (fun _ => True) u5 x5_1) ∧ Aside0 (Below w.heap.size w wc))
   case first =>
    have H := HC3.out
    clear HC3
    by_cases c4 : x7_1 < (l0.length : Int)
    ·rw [if_pos c4] at H
     have c4b0 := decide_eq_true c4
     clear c4
     (first | rw [c4b0] | (simp only [i64_w, i32_w]; rw [c4b0]) | rw [c4b1] | skip)
     have H' := md_ H
     clear H
     go_wp2
     go_meet
     case rel => exact ⟨_, (true), aq_, H', ⟨by have := HK1.out; first | omega | exact Nat.le_refl _⟩, ⟨rq_ HO_5.out⟩, ⟨bq_ HB.out⟩⟩
    ·rw [if_neg c4] at H
     have c4b0 := decide_eq_false c4
     clear c4
     (first | rw [c4b0] | (simp only [i64_w, i32_w]; rw [c4b0]) | rw [c4b1] | skip)
     have H' := md_ H
     clear H
     go_wp2
     go_meet
     case rel => exact ⟨_, (decide (x7_1 < (l1.length : Int))), aq_, H', ⟨by have := HK1.out; first | omega | exact Nat.le_refl _⟩, ⟨rq_ HO_5.out⟩, ⟨bq_ HB.out⟩⟩
   case rest =>
    clear HC3
    (try clear c1); (try clear c2); (try clear p2); (try clear c4); (try clear c4b0); (try clear c4b1); (try clear p2)
    obtain ⟨kq, x17_2, rfl, HA, HJ2, HO_5, HB⟩ := hcut
    cases kq with
    | zero => exact absurd HA.out (by simp [bobbinref2_Add.j1])
    | succ kj2 =>
     have H := HA.out
     clear HA
     simp only [bobbinref2_Add.j1] at H
     by_cases c5 : x17_2 = true
     ·subst c5
      rw [if_pos rfl] at H
      by_cases c6 : x7_1 < (l0.length : Int)
      ·rw [if_pos c6] at H
       have c6b0 := decide_eq_true c6
       clear c6
       obtain ⟨c7b0, H⟩ := od_ H
       by_cases c8 : x7_1 < (l1.length : Int)
       ·rw [if_pos c8] at H
        have c8b0 := decide_eq_true c8
        clear c8
        obtain ⟨c9, H⟩ := oi_ H
        have LMc9 := md_ c9
        clear c9
        obtain ⟨y445, hy445⟩ : ∃ y_ : List Int, y_ = (x5_1 ++ [(IntKind.u64.wrap ((IntKind.u64.wrap (x6_1 + (IntKind.u64.wrap (rd l0 x7_1)))) + (IntKind.u64.wrap (rd l1 x7_1)))) % 4294967296]) := ⟨_, rfl⟩
        replace H : (bobbinref2_Add.l0 kj2 l0 l1 y445 ((IntKind.u64.wrap ((IntKind.u64.wrap (x6_1 + (IntKind.u64.wrap (rd l0 x7_1)))) + (IntKind.u64.wrap (rd l1 x7_1)))) / 4294967296) (wrap64 (x7_1 + 1))) = some r := by first | (rw [hy445]; with_reducible exact H) | (have H2_ := (Option.bind_some _ _).symm.trans H; rw [hy445]; with_reducible exact H2_) | (have H2_ := (Option.bind_some _ _).symm.trans H; with_reducible exact H2_) | with_reducible exact H | (rw [hy445]; exact H) | exact H
        have Ny445 := md_ hy445
        clear hy445
        have H' := md_ H
        clear H
        have p443 : 0 ≤ (x7_1 : Int) := oq_
        have q443 : x7_1 < (l0.length : Int) := oq_
        obtain ⟨ad443, e443, hx443_0⟩ := Kd.at_int HR0.out x7_1 p443 q443
        cases e443
        replace hx443_0 := (HB.out.cell (World.block_lt_of_cell? w _ hx443_0)).trans hx443_0
        replace p443 := eq_true p443
        replace q443 := eq_true q443
        have p444 : 0 ≤ (x7_1 : Int) := oq_
        have q444 : x7_1 < (l1.length : Int) := oq_
        obtain ⟨ad444, e444, hx444_0⟩ := Kd.at_int HR1.out x7_1 p444 q444
        cases e444
        replace hx444_0 := (HB.out.cell (World.block_lt_of_cell? w _ hx444_0)).trans hx444_0
        replace p444 := eq_true p444
        replace q444 := eq_true q444
        go_wp2_with (first | ((with_reducible refine gate_builtin (b := .append) (xs := #[.tmp 42, .tmp 45]) rfl ?_); (try (refine gate_guard (by rfl) ?_; dsimp only)); at_builtin; refine Kd.R_append (Kd.int .u32) (w0 := w) w.heap.size rfl (.tmp 42) (.tmp 45) 58 35 (.int .u32 0) 4 rfl Tryz.underlying58 info35 rfl (by decide) (by omega) u5 x5_1 ((IntKind.u64.wrap ((IntKind.u64.wrap (x6_1 + (IntKind.u64.wrap (rd l0 x7_1)))) + (IntKind.u64.wrap (rd l1 x7_1)))) % 4294967296) [.int .u32 ((IntKind.u64.wrap ((IntKind.u64.wrap (x6_1 + (IntKind.u64.wrap (rd l0 x7_1)))) + (IntKind.u64.wrap (rd l1 x7_1)))) % 4294967296)] (fun _ => True) (fun _ => False) rfl rfl ?aP (fun _ hk => hk.elim) ?aF ?aO ?aB ?aS ?aL ?_; (case aP => exact rfl); (case aB => exact (bq_ HB.out)); (case aF => exact (fun _ _ => trivial)); (case aO => exact (rq_ HO_5.out)); (case aS => exact (below_size (bq_ HB.out))); (case aL => have := LMc9.out; omega); intro v446 w10 ho hb hg hat; rw [← Ny445.out] at ho; replace HB := md_ (hb); have HO447 := md_ (ho); clear HO_5; clear ho hb hg hat))
        go_roundg kj2
        case measure => have := HK1.out; have := HJ2.out; omega
        case rel => exact ⟨(y445), ((IntKind.u64.wrap ((IntKind.u64.wrap (x6_1 + (IntKind.u64.wrap (rd l0 x7_1)))) + (IntKind.u64.wrap (rd l1 x7_1)))) / 4294967296), (wrap64 (x7_1 + 1)), aq_, aq_, H', ⟨by have := HK1.out; have := HJ2.out; omega⟩, ⟨rq_ HO447.out⟩, ⟨bq_ HB.out⟩⟩
       ·rw [if_neg c8] at H
        have c8b0 := decide_eq_false c8
        clear c8
        obtain ⟨c11, H⟩ := oi_ H
        have LMc11 := md_ c11
        clear c11
        obtain ⟨y448, hy448⟩ : ∃ y_ : List Int, y_ = (x5_1 ++ [(IntKind.u64.wrap (x6_1 + (IntKind.u64.wrap (rd l0 x7_1)))) % 4294967296]) := ⟨_, rfl⟩
        replace H : (bobbinref2_Add.l0 kj2 l0 l1 y448 ((IntKind.u64.wrap (x6_1 + (IntKind.u64.wrap (rd l0 x7_1)))) / 4294967296) (wrap64 (x7_1 + 1))) = some r := by first | (rw [hy448]; with_reducible exact H) | (have H2_ := (Option.bind_some _ _).symm.trans H; rw [hy448]; with_reducible exact H2_) | (have H2_ := (Option.bind_some _ _).symm.trans H; with_reducible exact H2_) | with_reducible exact H | (rw [hy448]; exact H) | exact H
        have Ny448 := md_ hy448
        clear hy448
        have H' := md_ H
        clear H
        have p443 : 0 ≤ (x7_1 : Int) := oq_
        have q443 : x7_1 < (l0.length : Int) := oq_
        obtain ⟨ad443, e443, hx443_0⟩ := Kd.at_int HR0.out x7_1 p443 q443
        cases e443
        replace hx443_0 := (HB.out.cell (World.block_lt_of_cell? w _ hx443_0)).trans hx443_0
        replace p443 := eq_true p443
        replace q443 := eq_true q443
        go_wp2_with (first | ((with_reducible refine gate_builtin (b := .append) (xs := #[.tmp 42, .tmp 45]) rfl ?_); (try (refine gate_guard (by rfl) ?_; dsimp only)); at_builtin; refine Kd.R_append (Kd.int .u32) (w0 := w) w.heap.size rfl (.tmp 42) (.tmp 45) 58 35 (.int .u32 0) 4 rfl Tryz.underlying58 info35 rfl (by decide) (by omega) u5 x5_1 ((IntKind.u64.wrap (x6_1 + (IntKind.u64.wrap (rd l0 x7_1)))) % 4294967296) [.int .u32 ((IntKind.u64.wrap (x6_1 + (IntKind.u64.wrap (rd l0 x7_1)))) % 4294967296)] (fun _ => True) (fun _ => False) rfl rfl ?aP (fun _ hk => hk.elim) ?aF ?aO ?aB ?aS ?aL ?_; (case aP => exact rfl); (case aB => exact (bq_ HB.out)); (case aF => exact (fun _ _ => trivial)); (case aO => exact (rq_ HO_5.out)); (case aS => exact (below_size (bq_ HB.out))); (case aL => have := LMc11.out; omega); intro v449 w12 ho hb hg hat; rw [← Ny448.out] at ho; replace HB := md_ (hb); have HO450 := md_ (ho); clear HO_5; clear ho hb hg hat))
        go_roundg kj2
        case measure => have := HK1.out; have := HJ2.out; omega
        case rel => exact ⟨(y448), ((IntKind.u64.wrap (x6_1 + (IntKind.u64.wrap (rd l0 x7_1)))) / 4294967296), (wrap64 (x7_1 + 1)), aq_, aq_, H', ⟨by have := HK1.out; have := HJ2.out; omega⟩, ⟨rq_ HO450.out⟩, ⟨bq_ HB.out⟩⟩
      ·rw [if_neg c6] at H
       have c6b0 := decide_eq_false c6
       clear c6
       by_cases c13 : x7_1 < (l1.length : Int)
       ·rw [if_pos c13] at H
        have c13b0 := decide_eq_true c13
        clear c13
        obtain ⟨c14b0, H⟩ := od_ H
        obtain ⟨c15, H⟩ := oi_ H
        have LMc15 := md_ c15
        clear c15
        obtain ⟨y452, hy452⟩ : ∃ y_ : List Int, y_ = (x5_1 ++ [(IntKind.u64.wrap (x6_1 + (IntKind.u64.wrap (rd l1 x7_1)))) % 4294967296]) := ⟨_, rfl⟩
        replace H : (bobbinref2_Add.l0 kj2 l0 l1 y452 ((IntKind.u64.wrap (x6_1 + (IntKind.u64.wrap (rd l1 x7_1)))) / 4294967296) (wrap64 (x7_1 + 1))) = some r := by first | (rw [hy452]; with_reducible exact H) | (have H2_ := (Option.bind_some _ _).symm.trans H; rw [hy452]; with_reducible exact H2_) | (have H2_ := (Option.bind_some _ _).symm.trans H; with_reducible exact H2_) | with_reducible exact H | (rw [hy452]; exact H) | exact H
        have Ny452 := md_ hy452
        clear hy452
        have H' := md_ H
        clear H
        have p451 : 0 ≤ (x7_1 : Int) := oq_
        have q451 : x7_1 < (l1.length : Int) := oq_
        obtain ⟨ad451, e451, hx451_0⟩ := Kd.at_int HR1.out x7_1 p451 q451
        cases e451
        replace hx451_0 := (HB.out.cell (World.block_lt_of_cell? w _ hx451_0)).trans hx451_0
        replace p451 := eq_true p451
        replace q451 := eq_true q451
        go_wp2_with (first | ((with_reducible refine gate_builtin (b := .append) (xs := #[.tmp 42, .tmp 45]) rfl ?_); (try (refine gate_guard (by rfl) ?_; dsimp only)); at_builtin; refine Kd.R_append (Kd.int .u32) (w0 := w) w.heap.size rfl (.tmp 42) (.tmp 45) 58 35 (.int .u32 0) 4 rfl Tryz.underlying58 info35 rfl (by decide) (by omega) u5 x5_1 ((IntKind.u64.wrap (x6_1 + (IntKind.u64.wrap (rd l1 x7_1)))) % 4294967296) [.int .u32 ((IntKind.u64.wrap (x6_1 + (IntKind.u64.wrap (rd l1 x7_1)))) % 4294967296)] (fun _ => True) (fun _ => False) rfl rfl ?aP (fun _ hk => hk.elim) ?aF ?aO ?aB ?aS ?aL ?_; (case aP => exact rfl); (case aB => exact (bq_ HB.out)); (case aF => exact (fun _ _ => trivial)); (case aO => exact (rq_ HO_5.out)); (case aS => exact (below_size (bq_ HB.out))); (case aL => have := LMc15.out; omega); intro v453 w16 ho hb hg hat; rw [← Ny452.out] at ho; replace HB := md_ (hb); have HO454 := md_ (ho); clear HO_5; clear ho hb hg hat))
        go_roundg kj2
        case measure => have := HK1.out; have := HJ2.out; omega
        case rel => exact ⟨(y452), ((IntKind.u64.wrap (x6_1 + (IntKind.u64.wrap (rd l1 x7_1)))) / 4294967296), (wrap64 (x7_1 + 1)), aq_, aq_, H', ⟨by have := HK1.out; have := HJ2.out; omega⟩, ⟨rq_ HO454.out⟩, ⟨bq_ HB.out⟩⟩
       ·rw [if_neg c13] at H
        have c13b0 := decide_eq_false c13
        clear c13
        obtain ⟨c17, H⟩ := oi_ H
        have LMc17 := md_ c17
        clear c17
        obtain ⟨y455, hy455⟩ : ∃ y_ : List Int, y_ = (x5_1 ++ [(x6_1) % 4294967296]) := ⟨_, rfl⟩
        replace H : (bobbinref2_Add.l0 kj2 l0 l1 y455 (x6_1 / 4294967296) (wrap64 (x7_1 + 1))) = some r := by first | (rw [hy455]; with_reducible exact H) | (have H2_ := (Option.bind_some _ _).symm.trans H; rw [hy455]; with_reducible exact H2_) | (have H2_ := (Option.bind_some _ _).symm.trans H; with_reducible exact H2_) | with_reducible exact H | (rw [hy455]; exact H) | exact H
        have Ny455 := md_ hy455
        clear hy455
        have H' := md_ H
        clear H
        go_wp2_with (first | ((with_reducible refine gate_builtin (b := .append) (xs := #[.tmp 42, .tmp 45]) rfl ?_); (try (refine gate_guard (by rfl) ?_; dsimp only)); at_builtin; refine Kd.R_append (Kd.int .u32) (w0 := w) w.heap.size rfl (.tmp 42) (.tmp 45) 58 35 (.int .u32 0) 4 rfl Tryz.underlying58 info35 rfl (by decide) (by omega) u5 x5_1 ((x6_1) % 4294967296) [.int .u32 ((x6_1) % 4294967296)] (fun _ => True) (fun _ => False) rfl rfl ?aP (fun _ hk => hk.elim) ?aF ?aO ?aB ?aS ?aL ?_; (case aP => exact rfl); (case aB => exact (bq_ HB.out)); (case aF => exact (fun _ _ => trivial)); (case aO => exact (rq_ HO_5.out)); (case aS => exact (below_size (bq_ HB.out))); (case aL => have := LMc17.out; omega); intro v456 w18 ho hb hg hat; rw [← Ny455.out] at ho; replace HB := md_ (hb); have HO457 := md_ (ho); clear HO_5; clear ho hb hg hat))
        go_roundg kj2
        case measure => have := HK1.out; have := HJ2.out; omega
        case rel => exact ⟨(y455), (x6_1 / 4294967296), (wrap64 (x7_1 + 1)), aq_, aq_, H', ⟨by have := HK1.out; have := HJ2.out; omega⟩, ⟨rq_ HO457.out⟩, ⟨bq_ HB.out⟩⟩
     ·replace c5 := Bool.eq_false_iff.mpr c5
      subst c5
      rw [if_neg (show ¬ (false = true) by decide)] at H
      obtain ⟨c19, H⟩ := oi_ H
      have LMc19 := md_ c19
      clear c19
      obtain ⟨y437, hy437⟩ : ∃ y_ : List Int, y_ = (x5_1 ++ [(x6_1) % 4294967296]) := ⟨_, rfl⟩
      replace H : ((bobbinref2_Norm.f kj2 y437).bind fun t440 => (some t440)) = some r := by first | (rw [hy437]; with_reducible exact H) | (have H2_ := (Option.bind_some _ _).symm.trans H; rw [hy437]; with_reducible exact H2_) | (have H2_ := (Option.bind_some _ _).symm.trans H; with_reducible exact H2_) | with_reducible exact H | (rw [hy437]; exact H) | exact H
      have Ny437 := md_ hy437
      clear hy437
      replace H := Option.bind_eq_some_iff.mp H
      obtain ⟨t440, A200, H⟩ := H
      have A20 := md_ A200
      clear A200
      obtain rfl := Option.some.inj H
      go_wp2_with (first | ((with_reducible refine gate_builtin (b := .append) (xs := #[.tmp 49, .tmp 52]) rfl ?_); (try (refine gate_guard (by rfl) ?_; dsimp only)); at_builtin; refine Kd.R_append (Kd.int .u32) (w0 := w) w.heap.size rfl (.tmp 49) (.tmp 52) 58 35 (.int .u32 0) 4 rfl Tryz.underlying58 info35 rfl (by decide) (by omega) u5 x5_1 ((x6_1) % 4294967296) [.int .u32 ((x6_1) % 4294967296)] (fun _ => True) (fun _ => False) rfl rfl ?aP (fun _ hk => hk.elim) ?aF ?aO ?aB ?aS ?aL ?_; (case aP => exact rfl); (case aB => exact (bq_ HB.out)); (case aF => exact (fun _ _ => trivial)); (case aO => exact (rq_ HO_5.out)); (case aS => exact (below_size (bq_ HB.out))); (case aL => have := LMc19.out; omega); intro v438 w21 ho hb hg hat; rw [← Ny437.out] at ho; replace HB := md_ (hb); have HO439 := md_ (ho); clear HO_5; clear ho hb hg hat; obtain ⟨Ao22, co22, eo22⟩ := Kd.R_slice HO439.out; subst eo22) | ((with_reducible refine gate_callee (f := 99) rfl ?_); refine goesL_ (some 54) rfl rfl Tryz.func99 (by kernel_rfl) rfl #[.slice Ao22 y437.length co22] rfl gq_ ?_; (with_reducible refine (bobbinref2_Norm.calls kj2 _ _ y437 t440 _ ?side1 ?side2 A20.out).mono ?_); (case side1 => repeat (first | exact (Kd.R_reads' HO439.out).2.2 | (with_reducible refine Kd.C_alloc ?_ _) | (with_reducible refine Kd.C_drewN ?_ _) | (with_reducible refine Kd.C_drew ?_))); (case side2 => exact (Kd.R_reads' HO439.out).2.1); rintro e w23 ⟨v441, rfl, ho0, hb⟩; refine ⟨_, rfl, ?_⟩; have n0_ := md_ (Kd.R_elder' (rq_ HO439.out) (Kd.R_base ho0) hb); have n1_ := md_ (Kd.R_lower (Kd.R_new' ho0 (Kd.R_lt (rq_ HO439.out))) (below_size (bq_ HB.out))); have n2_ := md_ (below_step (bq_ HB.out) hb); clear HO439; clear HB; have HO439 := n0_; have HO442 := n1_; have HB := n2_; clear n0_ n1_ n2_; (try clear hb); (try clear hb2); (try clear hk); (try clear hi); (try clear ho0)))
      go_ret
      exact ⟨_, ew_, by (with_reducible repeat (first | apply Kd.R_alloc | apply Kd.R_drewN | apply Kd.R_drew)); exact Kd.R_mono HO442.out (fun _ hk => trivial), bq_ HB.out⟩
def bobbinref2_Bits.l0 : Nat → Int → Int → Option (Int)
 | 0, _, _ => none
 | k + 1, x3, x4 => if x4 > 0 then (bobbinref2_Bits.l0 k (wrap64 (x3 + 1)) (x4 / 2)) else (some x3)
def bobbinref2_Bits.f (k : Nat) (l0 : List Int) : Option (Int) := (bobbinref2_trimmed.f k l0).bind fun t463 => (if (t463.length : Int) = 0 then (some 0) else (if 0 ≤ (wrap64 ((t463.length : Int) - 1)) then (if (wrap64 ((t463.length : Int) - 1)) < (t463.length : Int) then (bobbinref2_Bits.l0 k (wrap64 (32 * (wrap64 ((t463.length : Int) - 1)))) (rd t463 (wrap64 ((t463.length : Int) - 1)))) else (none)) else (none)))
set_option maxRecDepth 100000 in
theorem bobbinref2_Bits.calls (k : Nat) (A0 : Option Addr) (c0 : Nat) (l0 : List Int) (r : Int) (w : World) (hr0 : Kd.C (Kd.int .u32) w A0 l0.length l0) (hc0 : l0.length ≤ c0) (h : bobbinref2_Bits.f k l0 = some r) :
  Calls Tryz.prog 44 #[.slice A0 l0.length c0] w fun e w' => e = .returned (.int .i64 r) ∧ Below w.heap.size w w' := by
 have HR0 := md_ hr0
 have HC0 := md_ hc0
 clear hr0 hc0
 have HB := md_ (Below.refl w.heap.size w)
 have H : ((bobbinref2_trimmed.f k l0).bind fun t463 => (if (t463.length : Int) = 0 then (some 0) else (if 0 ≤ (wrap64 ((t463.length : Int) - 1)) then (if (wrap64 ((t463.length : Int) - 1)) < (t463.length : Int) then (bobbinref2_Bits.l0 k (wrap64 (32 * (wrap64 ((t463.length : Int) - 1)))) (rd t463 (wrap64 ((t463.length : Int) - 1)))) else (none)) else (none)))) = some r := h
 clear h
 replace H := Option.bind_eq_some_iff.mp H
 obtain ⟨t463, A20, H⟩ := H
 have A2 := md_ A20
 clear A20
 by_cases c3 : (t463.length : Int) = 0
 ·rw [if_pos c3] at H
  have c3b0 : ((t463.length : Int) == 0) = true := beq_iff_eq.mpr c3
  have c3b1 : ((t463.length : Int) != 0) = false := bne_eq_false_iff_eq.mpr c3
  clear c3
  obtain rfl := Option.some.inj H
  go_enter Tryz.func44, Tryz.ntmps44
  go_wp2_with (first | ((with_reducible refine gate_callee (f := 101) rfl ?_); refine goesL_ (some 6) rfl rfl Tryz.func101 (by kernel_rfl) rfl #[.slice A0 l0.length c0] rfl gq_ ?_; (with_reducible refine (bobbinref2_trimmed.calls k (fun k_ => k_ < w.heap.size) _ _ l0 t463 _ ?side1 A2.out).mono ?_); (case side1 => exact Kd.V_mk HC0.out (Kd.F_below (Kd.C_F (Kd.heap_int .u32) HR0.out) (bq_ HB.out))); rintro e w4 ⟨v464, rfl, ho0, hb⟩; refine ⟨_, rfl, ?_⟩; have HO465 := md_ (Kd.V_lower (Kd.V_mono (ok' := fun k_ => True) ho0 (fun k_ hk_ => trivial)) (below_size (bq_ HB.out))); replace HB := bb_ HB hb; (try clear hb); (try clear hb2); (try clear hk); (try clear hi); (try clear ho0); obtain ⟨Ao5, co5, eo5⟩ := Kd.V_slice HO465.out; subst eo5))
  go_ret
  exact ⟨ew_, bq_ HB.out⟩
 ·rw [if_neg c3] at H
  have c3b0 : ((t463.length : Int) == 0) = false := beq_eq_false_iff_ne.mpr c3
  have c3b1 : ((t463.length : Int) != 0) = true := bne_iff_ne.mpr c3
  have c3b2 : ¬ (t463 = []) := fun h_ => c3 (by rw [h_]; rfl)
  obtain ⟨ji6, hji6⟩ : ∃ j_ : Int, (wrap64 ((t463.length : Int) - 1)) = j_ := ⟨_, rfl⟩
  first | rw [hji6] at H | simp only [hji6] at H
  (try rw [hji6] at A2)
  have hji6w : (IntKind.i64.wrap ((t463.length : Int) - 1)) = ji6 := (i64_w _).trans hji6
  obtain ⟨c7b0, H⟩ := od_ H
  obtain ⟨c8b0, H⟩ := od_ H
  have H' := md_ H
  clear H
  go_enter Tryz.func44, Tryz.ntmps44
  go_wp2_with (first | ((with_reducible refine gate_callee (f := 101) rfl ?_); refine goesL_ (some 6) rfl rfl Tryz.func101 (by kernel_rfl) rfl #[.slice A0 l0.length c0] rfl gq_ ?_; (with_reducible refine (bobbinref2_trimmed.calls k (fun k_ => k_ < w.heap.size) _ _ l0 t463 _ ?side1 A2.out).mono ?_); (case side1 => exact Kd.V_mk HC0.out (Kd.F_below (Kd.C_F (Kd.heap_int .u32) HR0.out) (bq_ HB.out))); rintro e w9 ⟨v464, rfl, ho0, hb⟩; refine ⟨_, rfl, ?_⟩; have HO465 := md_ (Kd.V_lower (Kd.V_mono (ok' := fun k_ => True) ho0 (fun k_ hk_ => trivial)) (below_size (bq_ HB.out))); replace HB := bb_ HB hb; (try clear hb); (try clear hb2); (try clear hk); (try clear hi); (try clear ho0); obtain ⟨Ao10, co10, eo10⟩ := Kd.V_slice HO465.out; subst eo10; have p466 : 0 ≤ ((ji6) : Int) := oq_; have q466 : (ji6) < (t463.length : Int) := oq_; obtain ⟨ad466, e466, hx466_0⟩ := Kd.at_int (Kd.V_reads' HO465.out).2.2 (ji6) p466 q466; cases e466; replace p466 := eq_true p466; replace q466 := eq_true q466))
  go_loopg [3, 4] k (fun kq v3 v4 w' => ∃ (x3_1 : Int) (x4_1 : Int), v3 = .int .i64 x3_1 ∧ v4 = .int .u32 x4_1 ∧ Aside0 (bobbinref2_Bits.l0 kq x3_1 x4_1 = some r) ∧ Aside0 (kq ≤ k) ∧ Aside0 (Below w.heap.size w w'))
  case atStart => exact ⟨(wrap64 (32 * (ji6))), (rd t463 (ji6)), (by first | rfl | (simp; done) | (simp only [← hji6] <;> (first | rfl | simp)) | (simp [*]; done)), (by first | rfl | (simp; done) | (simp only [← hji6] <;> (first | rfl | simp)) | (simp [*]; done)), H', ⟨Nat.le_refl _⟩, ⟨bq_ HB.out⟩⟩
  case round =>
   clear H'
   (try clear p2); (try clear c3); (try clear c3b0); (try clear c3b1); (try clear c3b2); (try clear c4); (try clear p4); (try clear q4); (try clear hx4); (try clear p6); (try clear c7); (try clear c7b0); (try clear c8); (try clear c8b0); (try clear hx466_0); (try clear p466); (try clear q466)
   obtain ⟨x3_1, x4_1, rfl, rfl, HA, HK1, HB⟩ := hrel
   cases gk with
   | zero => exact absurd HA.out (by simp [bobbinref2_Bits.l0])
   | succ k1 =>
    have H := HA.out
    clear HA
    simp only [bobbinref2_Bits.l0] at H
    by_cases c11 : x4_1 > 0
    ·rw [if_pos c11] at H
     have c11b0 : decide (0 < x4_1) = true := decide_eq_true c11
     clear c11
     have H' := md_ H
     clear H
     go_wp2
     go_roundg k1
     case measure => have := HK1.out; omega
     case rel => exact ⟨(wrap64 (x3_1 + 1)), (x4_1 / 2), aq_, aq_, H', ⟨by have := HK1.out; omega⟩, ⟨bq_ HB.out⟩⟩
    ·rw [if_neg c11] at H
     have c11b0 : decide (0 < x4_1) = false := decide_eq_false c11
     clear c11
     obtain rfl := Option.some.inj H
     go_wp2
     go_ret
     exact ⟨by first | rfl | (simp [errW_none, errW_some] <;> rfl) | (simp only [← hji6]; first | rfl | (simp [errW_none, errW_some] <;> rfl)) | (simp [*, errW_none, errW_some] <;> rfl), bq_ HB.out⟩
end Go.Proofs.YtdoeigngpemcgaaGreatDoor.PNat
namespace Go.Proofs.YtdoeigngpemcgaaGreatDoor.PNatO
open Go.RowKit YtdoeigngpemcgaaGreatDoorW.PrintWords YtdoeigngpemcgaaGreatDoorW.PrintLast YtdoeigngpemcgaaGreatDoorW.PrintMore
attribute [local go_sem] max2_int min2_int max_two min_two max_three min_three max_four min_four
theorem ow_C_len {α : Type} {d : Kd α} {w : World} {A : Option Addr} {n m : Nat} {xs : List α} (h : n = m) (hc : d.C w A n xs) : d.C w A m xs := h ▸ hc
def bobbinref2_trimmed.l0 : Nat → List Int → Int → Option (List Int)
 | 0, _, _ => none
 | k + 1, x0, x3 => if x3 > 0 then (if 0 ≤ (wrap64 (x3 - 1)) then (if (wrap64 (x3 - 1)) < (x0.length : Int) then (if (rd x0 (wrap64 (x3 - 1))) = 0 then (bobbinref2_trimmed.l0 k x0 (wrap64 (x3 - 1))) else (if 0 ≤ x3 then (if x3 ≤ (x0.length : Int) then (some (x0.take (x3 : Int).toNat)) else (none)) else (none))) else (none)) else (none)) else (if 0 ≤ x3 then (if x3 ≤ (x0.length : Int) then (some (x0.take (x3 : Int).toNat)) else (none)) else (none))
def bobbinref2_trimmed.f (k : Nat) (l0 : List Int) : Option (List Int) := bobbinref2_trimmed.l0 k l0 (l0.length : Int)
set_option maxRecDepth 100000 in
theorem bobbinref2_trimmed.calls (k : Nat) (P0_ : Nat → Prop) (u9000_ : Value) (l0 : List Int) (r : List Int) (w0 w : World) (hB : Below w0.heap.size w0 w) (ho0 : Kd.R (Kd.int .u32) 35 w w0.heap.size P0_ u9000_ l0) (h : bobbinref2_trimmed.f k l0 = some r) :
  Calls Tryz.prog 101 #[u9000_] w fun e w' => ∃ v0_ : Value, e = .returned (v0_) ∧ Kd.R (Kd.int .u32) 35 w' w0.heap.size (fun k_ => (P0_ k_ ∨ w.heap.size ≤ k_)) v0_ r ∧ Below w0.heap.size w0 w' ∧ Kept w w' (fun k_ => P0_ k_) := by
 have HO0 := md_ (show Kd.R (Kd.int .u32) 35 w w0.heap.size (fun k_ => (P0_ k_ ∨ w.heap.size ≤ k_)) u9000_ l0 from Kd.R_mono ho0 (fun k_ hk => (.inl hk)))
 have HK := md_ (Kept.refl w (fun k_ => P0_ k_))
 have HW0 := md_ hB.size
 have HB := md_ hB
 clear hB
 have H : (bobbinref2_trimmed.l0 k l0 (l0.length : Int)) = some r := h
 clear h
 have H' := md_ H
 clear H
 obtain ⟨Ao2, co2, eo2⟩ := Kd.R_slice HO0.out
 subst eo2
 go_enter Tryz.func101, Tryz.ntmps101
 go_wp2
 go_loopg [3] k (fun kq v3 w' => ∃ (x3_1 : Int), v3 = .int .i64 x3_1 ∧ Aside0 (bobbinref2_trimmed.l0 kq l0 x3_1 = some r) ∧ Aside0 (kq ≤ k) ∧ Aside0 (Kd.R (Kd.int .u32) 35 w' w0.heap.size (fun k_ => (P0_ k_ ∨ w.heap.size ≤ k_)) (.slice Ao2 l0.length co2) l0) ∧ Aside0 (Kept w w' (fun k_ => P0_ k_)) ∧ Aside0 (Below w0.heap.size w0 w'))
 case atStart => exact ⟨((l0.length : Int)), aq_, H', ⟨Nat.le_refl _⟩, ⟨rq_ HO0.out⟩, ⟨by repeat (first | (with_reducible first | exact HK.out | apply Kept.alloc | apply Kept.drewN | apply Kept.drew) | exact HK.out)⟩, ⟨bq_ HB.out⟩⟩
 case round =>
  clear H'
  (try clear p2)
  obtain ⟨x3_1, rfl, HA, HK1, HO_0, HK, HB⟩ := hrel
  cases gk with
  | zero => exact absurd HA.out (by simp [bobbinref2_trimmed.l0])
  | succ k1 =>
   have H := HA.out
   clear HA
   simp only [bobbinref2_trimmed.l0] at H
   by_cases c3 : x3_1 > 0
   ·rw [if_pos c3] at H
    have c3b0 : decide (0 < x3_1) = true := decide_eq_true c3
    clear c3
    obtain ⟨ji4, hji4⟩ : ∃ j_ : Int, (wrap64 (x3_1 - 1)) = j_ := ⟨_, rfl⟩
    first | rw [hji4] at H | simp only [hji4] at H
    have hji4w : (IntKind.i64.wrap (x3_1 - 1)) = ji4 := (i64_w _).trans hji4
    obtain ⟨c5b0, H⟩ := od_ H
    obtain ⟨c6b0, H⟩ := od_ H
    by_cases c7 : (rd l0 (ji4)) = 0
    ·rw [if_pos c7] at H
     have c7b0 : ((rd l0 (ji4)) == 0) = true := beq_iff_eq.mpr c7
     have c7b1 : ((rd l0 (ji4)) != 0) = false := bne_eq_false_iff_eq.mpr c7
     clear c7
     have H' := md_ H
     clear H
     have p110 : 0 ≤ ((ji4) : Int) := oq_
     have q110 : (ji4) < (l0.length : Int) := oq_
     obtain ⟨ad110, e110, hx110_0⟩ := Kd.at_int (Kd.R_reads' HO_0.out).2.2 (ji4) p110 q110
     cases e110
     replace p110 := eq_true p110
     replace q110 := eq_true q110
     go_wp2
     go_roundg k1
     case measure => have := HK1.out; omega
     case rel => exact ⟨(ji4), (by first | rfl | (simp; done) | (simp only [← hji4] <;> (first | rfl | simp)) | (simp [*]; done)), H', ⟨by have := HK1.out; omega⟩, ⟨rq_ HO_0.out⟩, ⟨by repeat (first | (with_reducible first | exact HK.out | apply Kept.alloc | apply Kept.drewN | apply Kept.drew) | exact HK.out)⟩, ⟨bq_ HB.out⟩⟩
    ·rw [if_neg c7] at H
     have c7b0 : ((rd l0 (ji4)) == 0) = false := beq_eq_false_iff_ne.mpr c7
     have c7b1 : ((rd l0 (ji4)) != 0) = true := bne_iff_ne.mpr c7
     obtain ⟨c8, H⟩ := oi_ H
     have c8b0 := eq_true c8
     have c8b1 : decide (0 ≤ x3_1) = true := decide_eq_true c8
     clear c8
     obtain ⟨c9, H⟩ := oi_ H
     have c9b0 := eq_true c9
     have c9b1 : decide (x3_1 ≤ (l0.length : Int)) = true := decide_eq_true c9
     clear c9
     obtain ⟨y111, hy111⟩ : ∃ y_ : List Int, y_ = (l0.take (x3_1 : Int).toNat) := ⟨_, rfl⟩
     replace H : (some y111) = some r := by first | (rw [hy111]; with_reducible exact H) | (have H2_ := (Option.bind_some _ _).symm.trans H; rw [hy111]; with_reducible exact H2_) | (have H2_ := (Option.bind_some _ _).symm.trans H; with_reducible exact H2_) | with_reducible exact H | (rw [hy111]; exact H) | exact H
     have Ny111 := md_ hy111
     clear hy111
     obtain rfl := Option.some.inj H
     have p110 : 0 ≤ ((ji4) : Int) := oq_
     have q110 : (ji4) < (l0.length : Int) := oq_
     obtain ⟨ad110, e110, hx110_0⟩ := Kd.at_int (Kd.R_reads' HO_0.out).2.2 (ji4) p110 q110
     cases e110
     replace p110 := eq_true p110
     replace q110 := eq_true q110
     have q10 : (x3_1 : Int) ≤ ((l0.length : Int) : Int) := oq_
     obtain ⟨i010, hi010, _, hsz10, _⟩ := info_parts info35
     have hcut10 := cut_to (P := Tryz.prog) 58 35 .i64 Tryz.underlying58 hi010 (some ad110) l0.length co2 x3_1 oq_ q10 (Kd.R_reads' HO_0.out).2.1
     have hr10 := Kd.R_take (m := (x3_1 : Int).toNat) HO_0.out (by omega)
     have hy10 : y111.length = (x3_1 : Int).toNat := (by rw [Ny111.out, List.length_take]; omega)
     rw [← Ny111.out] at hr10
     rw [← hy10] at hr10 hcut10
     clear hy10 hi010 hsz10 HO_0
     have HO113 := md_ hr10
     clear hr10
     replace q10 := eq_true q10
     go_wp2
     go_ret
     exact ⟨_, by first | rfl | (simp [errW_none, errW_some] <;> rfl) | (simp only [← hji4]; first | rfl | (simp [errW_none, errW_some] <;> rfl)) | (simp [*, errW_none, errW_some] <;> rfl), rq_ HO113.out, bq_ HB.out, by repeat (first | (with_reducible first | exact HK.out | apply Kept.alloc | apply Kept.drewN | apply Kept.drew) | exact HK.out)⟩
   ·rw [if_neg c3] at H
    have c3b0 : decide (0 < x3_1) = false := decide_eq_false c3
    clear c3
    obtain ⟨c11, H⟩ := oi_ H
    have c11b0 := eq_true c11
    have c11b1 : decide (0 ≤ x3_1) = true := decide_eq_true c11
    clear c11
    obtain ⟨c12, H⟩ := oi_ H
    have c12b0 := eq_true c12
    have c12b1 : decide (x3_1 ≤ (l0.length : Int)) = true := decide_eq_true c12
    clear c12
    obtain ⟨y114, hy114⟩ : ∃ y_ : List Int, y_ = (l0.take (x3_1 : Int).toNat) := ⟨_, rfl⟩
    replace H : (some y114) = some r := by first | (rw [hy114]; with_reducible exact H) | (have H2_ := (Option.bind_some _ _).symm.trans H; rw [hy114]; with_reducible exact H2_) | (have H2_ := (Option.bind_some _ _).symm.trans H; with_reducible exact H2_) | with_reducible exact H | (rw [hy114]; exact H) | exact H
    have Ny114 := md_ hy114
    clear hy114
    obtain rfl := Option.some.inj H
    have q13 : (x3_1 : Int) ≤ ((l0.length : Int) : Int) := oq_
    obtain ⟨i013, hi013, _, hsz13, _⟩ := info_parts info35
    have hcut13 := cut_to (P := Tryz.prog) 58 35 .i64 Tryz.underlying58 hi013 Ao2 l0.length co2 x3_1 oq_ q13 (Kd.R_reads' HO_0.out).2.1
    have hr13 := Kd.R_take (m := (x3_1 : Int).toNat) HO_0.out (by omega)
    have hy13 : y114.length = (x3_1 : Int).toNat := (by rw [Ny114.out, List.length_take]; omega)
    rw [← Ny114.out] at hr13
    rw [← hy13] at hr13 hcut13
    clear hy13 hi013 hsz13 HO_0
    have HO116 := md_ hr13
    clear hr13
    replace q13 := eq_true q13
    go_wp2
    go_ret
    exact ⟨_, ew_, rq_ HO116.out, bq_ HB.out, by repeat (first | (with_reducible first | exact HK.out | apply Kept.alloc | apply Kept.drewN | apply Kept.drew) | exact HK.out)⟩
mutual
def bobbinref2_Text.l0 : Nat → List Int → List Int → Option (ByteArray)
 | 0, _, _ => none
 | k + 1, x3, x4 => if (x3.length : Int) > 0 then (bobbinref2_Text.l1 k x3 x4 0 (wrap64 ((x3.length : Int) - 1))) else (bobbinref2_Text.l3 k x4 (x4.length : Int))
def bobbinref2_Text.l1 : Nat → List Int → List Int → Int → Int → Option (ByteArray)
 | 0, _, _, _, _ => none
 | k + 1, x3, x4, x5, x6 => if x6 ≥ 0 then (if 0 ≤ x6 then (if x6 < (x3.length : Int) then (bobbinref2_Text.l1 k (x3.set (x6 : Int).toNat ((IntKind.u64.wrap (Int.tdiv (Go.bits .or .u64 (IntKind.u64.wrap (x5 * 4294967296)) (IntKind.u64.wrap (rd x3 x6))) 1000000000)) % 4294967296)) x4 (Int.tmod (Go.bits .or .u64 (IntKind.u64.wrap (x5 * 4294967296)) (IntKind.u64.wrap (rd x3 x6))) 1000000000) (wrap64 (x6 - 1))) else (none)) else (none)) else ((bobbinref2_trimmed.f k x3).bind fun t122 => (bobbinref2_Text.l2 k t122 x4 x5 0))
def bobbinref2_Text.l2 : Nat → List Int → List Int → Int → Int → Option (ByteArray)
 | 0, _, _, _, _ => none
 | k + 1, x3, x4, x5, x7 => if x7 < 9 then (if x4.length < 140737488355328 then (bobbinref2_Text.l2 k x3 (x4 ++ [(IntKind.u64.wrap (48 + (Int.tmod x5 10))) % 256]) (IntKind.u64.wrap (Int.tdiv x5 10)) (wrap64 (x7 + 1))) else (none)) else (bobbinref2_Text.l0 k x3 x4)
def bobbinref2_Text.j4 : Nat → List Int → Int → Option (ByteArray)
 | 0, _, _ => none
 | k + 1, x4, x8 => bobbinref2_Text.l4 k x4 ([] : List Int) (wrap64 (x8 - 1))
def bobbinref2_Text.l4 : Nat → List Int → List Int → Int → Option (ByteArray)
 | 0, _, _, _ => none
 | k + 1, x4, x9, x10 => if x10 ≥ 0 then (if 0 ≤ x10 then (if x10 < (x4.length : Int) then (if x9.length < 140737488355328 then (bobbinref2_Text.l4 k x4 (x9 ++ [rd x4 x10]) (wrap64 (x10 - 1))) else (none)) else (none)) else (none)) else (some (strOfNums x9))
def bobbinref2_Text.l3 : Nat → List Int → Int → Option (ByteArray)
 | 0, _, _ => none
 | k + 1, x4, x8 => if x8 > 1 then (if 0 ≤ (wrap64 (x8 - 1)) then (if (wrap64 (x8 - 1)) < (x4.length : Int) then (if (rd x4 (wrap64 (x8 - 1))) = 48 then (bobbinref2_Text.l3 k x4 (wrap64 (x8 - 1))) else (bobbinref2_Text.j4 k x4 x8)) else (none)) else (none)) else (bobbinref2_Text.j4 k x4 x8)
end
def bobbinref2_Text.f (k : Nat) (l0 : List Int) : Option (ByteArray) := (PNat.bobbinref2_Norm.f k l0).bind fun t117 => (if (t117.length : Int) = 0 then (some (⟨#[48]⟩ : ByteArray)) else (bobbinref2_Text.l0 k t117 ([] : List Int)))
set_option maxRecDepth 100000 in
theorem bobbinref2_Text.calls (k : Nat) (A0 : Option Addr) (c0 : Nat) (l0 : List Int) (r : ByteArray) (w : World) (hr0 : Kd.C (Kd.int .u32) w A0 l0.length l0) (hc0 : l0.length ≤ c0) (h : bobbinref2_Text.f k l0 = some r) :
  Calls Tryz.prog 47 #[.slice A0 l0.length c0] w fun e w' => e = .returned (.string r) ∧ Below w.heap.size w w' := by
 have HR0 := md_ hr0
 have HC0 := md_ hc0
 clear hr0 hc0
 have HB := md_ (Below.refl w.heap.size w)
 have H : ((PNat.bobbinref2_Norm.f k l0).bind fun t117 => (if (t117.length : Int) = 0 then (some (⟨#[48]⟩ : ByteArray)) else (bobbinref2_Text.l0 k t117 ([] : List Int)))) = some r := h
 clear h
 replace H := Option.bind_eq_some_iff.mp H
 obtain ⟨t117, A20, H⟩ := H
 have A2 := md_ A20
 clear A20
 by_cases c3 : (t117.length : Int) = 0
 ·rw [if_pos c3] at H
  have c3b0 : ((t117.length : Int) == 0) = true := beq_iff_eq.mpr c3
  have c3b1 : ((t117.length : Int) != 0) = false := bne_eq_false_iff_eq.mpr c3
  clear c3
  obtain rfl := Option.some.inj H
  go_enter Tryz.func47, Tryz.ntmps47
  go_wp2_with (first | ((with_reducible refine gate_callee (f := 99) rfl ?_); refine goesL_ (some 12) rfl rfl Tryz.func99 (by kernel_rfl) rfl #[.slice A0 l0.length c0] rfl gq_ ?_; (with_reducible refine (PNat.bobbinref2_Norm.calls k _ _ l0 t117 _ ?side1 ?side2 A2.out).mono ?_); (case side1 => repeat (first | exact HR0.out | (with_reducible refine Kd.C_alloc ?_ _) | (with_reducible refine Kd.C_drewN ?_ _) | (with_reducible refine Kd.C_drew ?_))); (case side2 => exact HC0.out); rintro e w4 ⟨v118, rfl, ho0, hb⟩; refine ⟨_, rfl, ?_⟩; have HO119 := md_ (Kd.R_lower ho0 (below_size (bq_ HB.out))); replace HB := bb_ HB hb; (try clear hb); (try clear hb2); (try clear hk); (try clear hi); (try clear ho0); obtain ⟨Ao5, co5, eo5⟩ := Kd.R_slice HO119.out; subst eo5))
  go_ret
  exact ⟨ew_, bq_ HB.out⟩
 ·rw [if_neg c3] at H
  have c3b0 : ((t117.length : Int) == 0) = false := beq_eq_false_iff_ne.mpr c3
  have c3b1 : ((t117.length : Int) != 0) = true := bne_iff_ne.mpr c3
  have c3b2 : ¬ (t117 = []) := fun h_ => c3 (by rw [h_]; rfl)
  have H' := md_ H
  clear H
  go_enter Tryz.func47, Tryz.ntmps47
  go_wp2_with (first | ((with_reducible refine gate_callee (f := 99) rfl ?_); refine goesL_ (some 12) rfl rfl Tryz.func99 (by kernel_rfl) rfl #[.slice A0 l0.length c0] rfl gq_ ?_; (with_reducible refine (PNat.bobbinref2_Norm.calls k _ _ l0 t117 _ ?side1 ?side2 A2.out).mono ?_); (case side1 => repeat (first | exact HR0.out | (with_reducible refine Kd.C_alloc ?_ _) | (with_reducible refine Kd.C_drewN ?_ _) | (with_reducible refine Kd.C_drew ?_))); (case side2 => exact HC0.out); rintro e w6 ⟨v118, rfl, ho0, hb⟩; refine ⟨_, rfl, ?_⟩; have HO119 := md_ (Kd.R_lower ho0 (below_size (bq_ HB.out))); replace HB := bb_ HB hb; (try clear hb); (try clear hb2); (try clear hk); (try clear hi); (try clear ho0); obtain ⟨Ao7, co7, eo7⟩ := Kd.R_slice HO119.out; subst eo7))
  go_loopg [3, 4] k (fun kq v3 v4 w' => ∃ (x3_1 : List Int) (x4_1 : List Int), Aside0 (bobbinref2_Text.l0 kq x3_1 x4_1 = some r) ∧ Aside0 (kq ≤ k) ∧ Aside0 (Kd.R (Kd.int .u32) 35 w' w.heap.size (fun _ => True) v3 x3_1) ∧ Aside0 (Kd.R (Kd.int .u8) 5 w' w.heap.size (fun _ => True) v4 x4_1) ∧ Aside0 (Below w.heap.size w w'))
  case atStart => exact ⟨(t117), (([] : List Int)), H', ⟨Nat.le_refl _⟩, ⟨rq_ HO119.out⟩, ⟨by first | exact Kd.R_nil _ _ _ _ _ | exact Kd.R_nil _ 5 _ 0 (fun _ => False) | exact Kd.R_nil _ 5 _ 0 _ | exact Kd.R_nil _ _ _ _ _ | exact Kd.N_nil _ _ _ _ _ | exact Kd.V_nil _ _ _ _ _ | exact Kd.Q_nil _ _ _ _ _ | exact Kd.S_nil _ _ _ _ _⟩, ⟨bq_ HB.out⟩⟩
  case round =>
   clear H'
   (try clear c1); (try clear c2); (try clear p2); (try clear c3); (try clear c3b0); (try clear c3b1); (try clear c3b2)
   obtain ⟨x3_1, x4_1, HA, HK1, HO_3, HO_4, HB⟩ := hrel
   cases gk with
   | zero => exact absurd HA.out (by simp [bobbinref2_Text.l0])
   | succ k1 =>
    have H := HA.out
    clear HA
    simp only [bobbinref2_Text.l0] at H
    by_cases c8 : (x3_1.length : Int) > 0
    ·rw [if_pos c8] at H
     have c8b0 : decide (0 < (x3_1.length : Int)) = true := decide_eq_true c8
     have c8b1 : decide (0 < x3_1.length) = true := decide_eq_true (by omega)
     clear c8
     have H' := md_ H
     clear H
     obtain ⟨Ao9, co9, eo9⟩ := Kd.R_slice HO_3.out
     subst eo9
     go_wp2
     go_loopg [5, 6] k1 (fun kq v5 v6 w' => ∃ (x3_2 : List Int) (x5_2 : Int) (x6_2 : Int), v5 = .int .u64 x5_2 ∧ v6 = .int .i64 x6_2 ∧ Aside0 (bobbinref2_Text.l1 kq x3_2 x4_1 x5_2 x6_2 = some r) ∧ Aside0 (kq ≤ k1) ∧ Aside0 (Kd.R (Kd.int .u32) 35 w' w.heap.size (fun _ => True) (.slice Ao9 x3_1.length co9) x3_2) ∧ Aside0 (Kd.R (Kd.int .u8) 5 w' w.heap.size (fun _ => True) u4 x4_1) ∧ Aside0 (Below w.heap.size w w'))
     case atStart => exact ⟨(x3_1), (0), (wrap64 ((x3_1.length : Int) - 1)), aq_, aq_, H', ⟨Nat.le_refl _⟩, ⟨rq_ HO_3.out⟩, ⟨rq_ HO_4.out⟩, ⟨bq_ HB.out⟩⟩
     case round =>
      clear H'
      (try clear c1); (try clear c2); (try clear p2); (try clear c3); (try clear c3b0); (try clear c3b1); (try clear c3b2); (try clear p6); (try clear c8); (try clear c8b0); (try clear c8b1); (try clear p2)
      obtain ⟨x3_2, x5_2, x6_2, rfl, rfl, HA, HK2, HO_3, HO_4, HB⟩ := hrel
      have hl3_2 := (Kd.R_reads' HO_3.out).1
      rw [hl3_2] at HO_3
      (try simp only [hl3_2])
      (try simp only [hl3_2] at HO_4)
      cases gk with
      | zero => exact absurd HA.out (by simp [bobbinref2_Text.l1])
      | succ k2 =>
       have H := HA.out
       clear HA
       simp only [bobbinref2_Text.l1] at H
       by_cases c10 : x6_2 ≥ 0
       ·rw [if_pos c10] at H
        have c10b0 : decide (0 ≤ x6_2) = true := decide_eq_true c10
        clear c10
        obtain ⟨c11b0, H⟩ := od_ H
        obtain ⟨c12b0, H⟩ := od_ H
        obtain ⟨y121, hy121⟩ : ∃ y_ : List Int, y_ = (x3_2.set (x6_2 : Int).toNat ((IntKind.u64.wrap (Int.tdiv (Go.bits .or .u64 (IntKind.u64.wrap (x5_2 * 4294967296)) (IntKind.u64.wrap (rd x3_2 x6_2))) 1000000000)) % 4294967296)) := ⟨_, rfl⟩
        replace H : (bobbinref2_Text.l1 k2 y121 x4_1 (Int.tmod (Go.bits .or .u64 (IntKind.u64.wrap (x5_2 * 4294967296)) (IntKind.u64.wrap (rd x3_2 x6_2))) 1000000000) (wrap64 (x6_2 - 1))) = some r := by first | (rw [hy121]; with_reducible exact H) | (have H2_ := (Option.bind_some _ _).symm.trans H; rw [hy121]; with_reducible exact H2_) | (have H2_ := (Option.bind_some _ _).symm.trans H; with_reducible exact H2_) | with_reducible exact H | (rw [hy121]; exact H) | exact H
        have Ny121 := md_ hy121
        clear hy121
        have H' := md_ H
        clear H
        have p120 : 0 ≤ (x6_2 : Int) := oq_
        have q120 : x6_2 < (x3_2.length : Int) := oq_
        obtain ⟨ad120, e120, hx120_0⟩ := Kd.at_int (Kd.R_reads' HO_3.out).2.2 x6_2 p120 q120
        cases e120
        replace p120 := eq_true p120
        replace q120 := eq_true q120
        have p13 : 0 ≤ (x6_2 : Int) := oq_
        have q13 : (x6_2 : Int) < ((x3_2.length : Int) : Int) := oq_
        obtain ⟨go13, co13, eo13, gb13, gl13, cl13, HG13⟩ := Kd.R_form HO_3.out (by omega)
        (first | cases eo13 | (injection eo13 with ea_ en_ ec_; (first | subst ea_ | (injection ea_ with ea_; subst ea_)); subst ec_; clear en_))
        have GB13 := md_ gb13
        have GG13 := md_ HG13
        clear gb13 gl13 HG13
        (first | simp only [add_plain] at hx120_0 | skip)
        obtain ⟨hx13_0, hf13_0⟩ := Kd.R_celln 0 HO_3.out (x6_2 : Int) p13 q13
        (try simp only [Int.toNat_natCast] at hx13_0)
        (try simp only [Int.toNat_natCast] at hf13_0)
        replace p13 := eq_true p13
        replace q13 := eq_true q13
        have HP14 := Kd.R_putg HO_3.out (x6_2 : Int) ((IntKind.u64.wrap (Int.tdiv (Go.bits .or .u64 (IntKind.u64.wrap (x5_2 * 4294967296)) (IntKind.u64.wrap (rd x3_2 x6_2))) 1000000000)) % 4294967296)
        go_wp2_with (first | ((with_reducible refine gate_store (t := 35) (p := 39) rfl ?_); refine store_event (t := 35) (p := 39) (v := ?vo_w15) (w1 := (wr.setCell ⟨go13, (x6_2 : Int).toNat, none⟩ (.int .u32 ((IntKind.u64.wrap (Int.tdiv (Go.bits .or .u64 (IntKind.u64.wrap (x5_2 * 4294967296)) (IntKind.u64.wrap (rd x3_2 x6_2))) 1000000000)) % 4294967296)))) ?hg ?ho ?hn ?hr ?_; (case ho => rfl); (case hg => rfl); (case hn => rfl); (case hr => first | (go_simp; done) | (go_simp; rfl) | (obtain ⟨hx_, hf_⟩ := Kd.R_celln 0 HO_3.out (x6_2 : Int) oq_ oq_; (try simp only [Int.toNat_natCast] at hx_); (try simp only [Int.toNat_natCast] at hf_); first | (go_simp; done) | (go_simp; rfl))); intro w15 hw; have hg : wr.grownBy w15 (some go13) := (by rw [hw]; exact HP14.2); have hp_ : Kd.R (Kd.int .u32) 35 w15 w.heap.size (fun _ => True) (.slice (some ⟨go13, 0, none⟩) x3_2.length co9) y121 := (by rw [hw, Ny121.out]; exact HP14.1); clear HP14; have n0_ := md_ (hp_); have n1_ := md_ (Kd.R_over' (v := (.slice (some ⟨go13, 0, none⟩) x3_2.length co9)) (rq_ HO_4.out) (Kd.R_typed HO_3.out) (by decide) hg); have n2_ := md_ ((by rw [hw]; exact below_set (HB.out) GB13.out : Below w.heap.size w w15)); clear HO_3; clear HO_4; clear HB; have HO_3 := n0_; have HO_4 := n1_; have HB := n2_; clear n0_ n1_ n2_; clear hg hw hp_))
        (try simp only [← hl3_2])
        go_roundg k2
        case measure => have := HK1.out; have := HK2.out; omega
        case rel => exact ⟨(y121), (Int.tmod (Go.bits .or .u64 (IntKind.u64.wrap (x5_2 * 4294967296)) (IntKind.u64.wrap (rd x3_2 x6_2))) 1000000000), (wrap64 (x6_2 - 1)), aq_, aq_, H', ⟨by have := HK1.out; have := HK2.out; omega⟩, ⟨by (try simp only [hl3_2]); (with_reducible repeat (first | apply Kd.R_alloc | apply Kd.R_drewN | apply Kd.R_drew)); exact HO_3.out⟩, ⟨by (try simp only [hl3_2]); (with_reducible repeat (first | apply Kd.R_alloc | apply Kd.R_drewN | apply Kd.R_drew)); exact HO_4.out⟩, ⟨bq_ HB.out⟩⟩
       ·rw [if_neg c10] at H
        have c10b0 : decide (0 ≤ x6_2) = false := decide_eq_false c10
        clear c10
        replace H := Option.bind_eq_some_iff.mp H
        obtain ⟨t122, A160, H⟩ := H
        have A16 := md_ A160
        clear A160
        have H' := md_ H
        clear H
        go_wp2_with (first | ((with_reducible refine gate_callee (f := 101) rfl ?_); refine goesL_ (some 43) rfl rfl Tryz.func101 (by kernel_rfl) rfl #[.slice Ao9 x3_2.length co9] rfl gq_ ?_; (with_reducible refine (bobbinref2_trimmed.calls k2 (fun k_ => some k_ = (.slice Ao9 x3_2.length co9 : Value).ownBlock) (.slice Ao9 x3_2.length co9) x3_2 t122 w _ ?side1 ?side2 A16.out).mono ?_); (case side1 => repeat (first | (with_reducible first | exact HB.out | apply below_alloc | apply pw_below_drewN | apply below_drew1) | exact HB.out)); (case side2 => exact Kd.R_tight rfl HO_3.out); rintro e w17 ⟨v123, rfl, ho0, hb, hkp⟩; refine ⟨_, rfl, ?_⟩; replace HO_4 := md_ (Kd.R_mono (ok' := fun k_ => True) (Kd.R_keptB ((Kd.R_apart' HO_4.out (Kd.R_typed HO_3.out) (by decide))) hkp (fun k_ hk_ hs_ => (hk_.2) hs_)) (fun k_ hk_ => trivial)); have HO124 := md_ (Kd.R_mono (ok' := fun k_ => True) ho0 (fun k_ hk_ => trivial)); replace HB := md_ (hb); clear HO_3; (try clear hb); (try clear hkp); (try clear ho0)))
        go_loopg [4, 5, 7] k2 (fun kq v4 v5 v7 w' => ∃ (x4_3 : List Int) (x5_3 : Int) (x7_3 : Int), v5 = .int .u64 x5_3 ∧ v7 = .int .i64 x7_3 ∧ Aside0 (bobbinref2_Text.l2 kq t122 x4_3 x5_3 x7_3 = some r) ∧ Aside0 (kq ≤ k2) ∧ Aside0 (Kd.R (Kd.int .u32) 35 w' w.heap.size (fun _ => True) v123 t122) ∧ Aside0 (Kd.R (Kd.int .u8) 5 w' w.heap.size (fun _ => True) v4 x4_3) ∧ Aside0 (Below w.heap.size w w'))
        case atStart => exact ⟨(x4_1), (x5_2), (0), aq_, aq_, H', ⟨Nat.le_refl _⟩, ⟨by (try simp only [hl3_2]); (with_reducible repeat (first | apply Kd.R_alloc | apply Kd.R_drewN | apply Kd.R_drew)); exact HO124.out⟩, ⟨by (try simp only [hl3_2]); (with_reducible repeat (first | apply Kd.R_alloc | apply Kd.R_drewN | apply Kd.R_drew)); exact HO_4.out⟩, ⟨bq_ HB.out⟩⟩
        case round =>
         clear H'
         (try clear c1); (try clear p1); (try clear q1); (try clear hx1); (try clear hf1); (try clear c2); (try clear p2); (try clear c3); (try clear c3b0); (try clear c3b1); (try clear c3b2); (try clear c4); (try clear p6); (try clear c8); (try clear c8b0); (try clear c8b1); (try clear c10); (try clear c10b0); (try clear c11); (try clear c11b0); (try clear c12); (try clear c12b0); (try clear p12); (try clear q12); (try clear hx12); (try clear p13); (try clear q13); (try clear hx13); (try clear hf13); (try clear c14); (try clear hx120_0); (try clear hx13_0); (try clear p120); (try clear p13); (try clear p2); (try clear p6); (try clear q120); (try clear q13)
         obtain ⟨x4_3, x5_3, x7_3, rfl, rfl, HA, HK3, HO_3, HO_4, HB⟩ := hrel
         cases gk with
         | zero => exact absurd HA.out (by simp [bobbinref2_Text.l2])
         | succ k3 =>
          have H := HA.out
          clear HA
          simp only [bobbinref2_Text.l2] at H
          by_cases c18 : x7_3 < 9
          ·rw [if_pos c18] at H
           have c18b0 := decide_eq_true c18
           clear c18
           obtain ⟨c19, H⟩ := oi_ H
           have LMc19 := md_ c19
           clear c19
           obtain ⟨y125, hy125⟩ : ∃ y_ : List Int, y_ = (x4_3 ++ [(IntKind.u64.wrap (48 + (Int.tmod x5_3 10))) % 256]) := ⟨_, rfl⟩
           replace H : (bobbinref2_Text.l2 k3 t122 y125 (IntKind.u64.wrap (Int.tdiv x5_3 10)) (wrap64 (x7_3 + 1))) = some r := by first | (rw [hy125]; with_reducible exact H) | (have H2_ := (Option.bind_some _ _).symm.trans H; rw [hy125]; with_reducible exact H2_) | (have H2_ := (Option.bind_some _ _).symm.trans H; with_reducible exact H2_) | with_reducible exact H | (rw [hy125]; exact H) | exact H
           have Ny125 := md_ hy125
           clear hy125
           have H' := md_ H
           clear H
           go_wp2_with (first | ((with_reducible refine gate_builtin (b := .append) (xs := #[.tmp 48, .tmp 53]) rfl ?_); at_builtin; refine Kd.R_append (Kd.int .u8) (w0 := w) w.heap.size rfl (.tmp 48) (.tmp 53) 110 5 (.int .u8 0) 1 rfl Tryz.underlying110 info5 rfl (by decide) (by omega) u4 x4_3 ((IntKind.u64.wrap (48 + (Int.tmod x5_3 10))) % 256) [.int .u8 ((IntKind.u64.wrap (48 + (Int.tmod x5_3 10))) % 256)] (fun _ => True) (fun _ => False) rfl rfl ?aP (fun _ hk => hk.elim) ?aF ?aO ?aB ?aS ?aL ?_; (case aP => exact rfl); (case aB => exact (bq_ HB.out)); (case aF => exact (fun _ _ => trivial)); (case aO => exact (rq_ HO_4.out)); (case aS => exact (below_size (bq_ HB.out))); (case aL => have := LMc19.out; omega); intro v126 w20 ho hb hg hat; rw [← Ny125.out] at ho; replace HO_3 := md_ (Kd.R_over' (rq_ HO_3.out) (Kd.R_typed (rq_ HO_4.out)) (by decide) hg); replace HB := md_ (hb); have HO127 := md_ (ho); clear HO_4; clear ho hb hg hat))
           go_roundg k3
           case measure => have := HK1.out; have := HK2.out; have := HK3.out; omega
           case rel => exact ⟨(y125), (IntKind.u64.wrap (Int.tdiv x5_3 10)), (wrap64 (x7_3 + 1)), aq_, aq_, H', ⟨by have := HK1.out; have := HK2.out; have := HK3.out; omega⟩, ⟨by (try simp only [hl3_2]); (with_reducible repeat (first | apply Kd.R_alloc | apply Kd.R_drewN | apply Kd.R_drew)); exact HO_3.out⟩, ⟨by (try simp only [hl3_2]); (with_reducible repeat (first | apply Kd.R_alloc | apply Kd.R_drewN | apply Kd.R_drew)); exact HO127.out⟩, ⟨bq_ HB.out⟩⟩
          ·rw [if_neg c18] at H
           have c18b0 := decide_eq_false c18
           clear c18
           have H' := md_ H
           clear H
           go_wp2
           (try simp only [← hl3_2])
           go_roundg k3
           case measure => have := HK1.out; have := HK2.out; have := HK3.out; omega
           case rel => exact ⟨(t122), (x4_3), H', ⟨by have := HK1.out; have := HK2.out; have := HK3.out; omega⟩, ⟨by (try simp only [hl3_2]); (with_reducible repeat (first | apply Kd.R_alloc | apply Kd.R_drewN | apply Kd.R_drew)); exact HO_3.out⟩, ⟨by (try simp only [hl3_2]); (with_reducible repeat (first | apply Kd.R_alloc | apply Kd.R_drewN | apply Kd.R_drew)); exact HO_4.out⟩, ⟨bq_ HB.out⟩⟩
    ·rw [if_neg c8] at H
     have c8b0 : decide (0 < (x3_1.length : Int)) = false := decide_eq_false c8
     have c8b1 : decide (0 < x3_1.length) = false := decide_eq_false (by omega)
     clear c8
     have HC21 := md_ H
     clear H
     obtain ⟨Ao22, co22, eo22⟩ := Kd.R_slice HO_3.out
     subst eo22
     obtain ⟨Ao23, co23, eo23⟩ := Kd.R_slice HO_4.out
     subst eo23
     go_upto_block 6 with (fail)
     go_cut [8] (fun v8 wc => ∃ (kq : Nat) (x8_20 : Int), v8 = .int .i64 x8_20 ∧ Aside0 (bobbinref2_Text.j4 kq x4_1 x8_20 = some r) ∧ Aside0 (kq ≤ k1) ∧ Aside0 (Kd.R (Kd.int .u8) 5 wc w.heap.size (fun _ => True) (.slice Ao23 x4_1.length co23) x4_1) ∧ Aside0 (Below w.heap.size w wc))
     case first =>
      have H := HC21.out
      clear HC21
      have H' := md_ H
      clear H
      go_wp2
      go_loopg [8] k1 (fun kq v8 w' => ∃ (x8_2 : Int), v8 = .int .i64 x8_2 ∧ Aside0 (bobbinref2_Text.l3 kq x4_1 x8_2 = some r) ∧ Aside0 (kq ≤ k1) ∧ Aside0 (Kd.R (Kd.int .u8) 5 w' w.heap.size (fun _ => True) (.slice Ao23 x4_1.length co23) x4_1) ∧ Aside0 (Below w.heap.size w w'))
      case atStart => exact ⟨((x4_1.length : Int)), aq_, H', ⟨Nat.le_refl _⟩, ⟨rq_ HO_4.out⟩, ⟨bq_ HB.out⟩⟩
      case round =>
       clear H'
       (try clear c1); (try clear p1); (try clear q1); (try clear hx1); (try clear hf1); (try clear c2); (try clear p2); (try clear c3); (try clear c3b0); (try clear c3b1); (try clear c3b2); (try clear c4); (try clear p6); (try clear c8); (try clear c8b0); (try clear c8b1); (try clear c10); (try clear c10b0); (try clear c11); (try clear c11b0); (try clear c12); (try clear c12b0); (try clear p12); (try clear q12); (try clear hx12); (try clear p13); (try clear q13); (try clear hx13); (try clear hf13); (try clear c14); (try clear c18); (try clear c18b0); (try clear c19); (try clear hx120_0); (try clear hx13_0); (try clear p1); (try clear p12); (try clear p120); (try clear p13); (try clear p2); (try clear p6); (try clear q1); (try clear q12); (try clear q120); (try clear q13)
       obtain ⟨x8_2, rfl, HA, HK2, HO_4, HB⟩ := hrel
       cases gk with
       | zero => exact absurd HA.out (by simp [bobbinref2_Text.l3])
       | succ k2 =>
        have H := HA.out
        clear HA
        simp only [bobbinref2_Text.l3] at H
        by_cases c24 : x8_2 > 1
        ·rw [if_pos c24] at H
         have c24b0 : decide (1 < x8_2) = true := decide_eq_true c24
         clear c24
         (first | rw [c24b0] | (simp only [i64_w, i32_w]; rw [c24b0]) | rw [c24b1] | skip)
         obtain ⟨ji25, hji25⟩ : ∃ j_ : Int, (wrap64 (x8_2 - 1)) = j_ := ⟨_, rfl⟩
         first | rw [hji25] at H | simp only [hji25] at H
         have hji25w : (IntKind.i64.wrap (x8_2 - 1)) = ji25 := (i64_w _).trans hji25
         obtain ⟨c26b0, H⟩ := od_ H
         obtain ⟨c27b0, H⟩ := od_ H
         by_cases c28 : (rd x4_1 (ji25)) = 48
         ·rw [if_pos c28] at H
          have c28b0 : ((rd x4_1 (ji25)) == 48) = true := beq_iff_eq.mpr c28
          have c28b1 : ((rd x4_1 (ji25)) != 48) = false := bne_eq_false_iff_eq.mpr c28
          clear c28
          have H' := md_ H
          clear H
          have p128 : 0 ≤ ((ji25) : Int) := oq_
          have q128 : (ji25) < (x4_1.length : Int) := oq_
          obtain ⟨ad128, e128, hx128_0⟩ := Kd.at_int (Kd.R_reads' HO_4.out).2.2 (ji25) p128 q128
          cases e128
          replace p128 := eq_true p128
          replace q128 := eq_true q128
          go_wp2
          go_roundg k2
          case measure => have := HK1.out; have := HK2.out; omega
          case rel => exact ⟨(ji25), (by first | rfl | (simp; done) | (simp only [← hji25] <;> (first | rfl | simp)) | (simp [*]; done)), H', ⟨by have := HK1.out; have := HK2.out; omega⟩, ⟨rq_ HO_4.out⟩, ⟨bq_ HB.out⟩⟩
         ·rw [if_neg c28] at H
          have c28b0 : ((rd x4_1 (ji25)) == 48) = false := beq_eq_false_iff_ne.mpr c28
          have c28b1 : ((rd x4_1 (ji25)) != 48) = true := bne_iff_ne.mpr c28
          have H' := md_ H
          clear H
          have p128 : 0 ≤ ((ji25) : Int) := oq_
          have q128 : (ji25) < (x4_1.length : Int) := oq_
          obtain ⟨ad128, e128, hx128_0⟩ := Kd.at_int (Kd.R_reads' HO_4.out).2.2 (ji25) p128 q128
          cases e128
          replace p128 := eq_true p128
          replace q128 := eq_true q128
          go_wp2
          go_meet
          case rel => exact ⟨_, (x8_2), aq_, H', ⟨by have := HK1.out; have := HK2.out; first | omega | exact Nat.le_refl _⟩, ⟨rq_ HO_4.out⟩, ⟨bq_ HB.out⟩⟩
        ·rw [if_neg c24] at H
         have c24b0 : decide (1 < x8_2) = false := decide_eq_false c24
         clear c24
         (first | rw [c24b0] | (simp only [i64_w, i32_w]; rw [c24b0]) | rw [c24b1] | skip)
         have H' := md_ H
         clear H
         go_wp2
         go_meet
         case rel => exact ⟨_, (x8_2), aq_, H', ⟨by have := HK1.out; have := HK2.out; first | omega | exact Nat.le_refl _⟩, ⟨rq_ HO_4.out⟩, ⟨bq_ HB.out⟩⟩
     case rest =>
      clear HC21
      (try clear c1); (try clear p1); (try clear q1); (try clear hx1); (try clear hf1); (try clear c2); (try clear p2); (try clear c3); (try clear c3b0); (try clear c3b1); (try clear c3b2); (try clear c4); (try clear p6); (try clear c8); (try clear c8b0); (try clear c8b1); (try clear c10); (try clear c10b0); (try clear c11); (try clear c11b0); (try clear c12); (try clear c12b0); (try clear p12); (try clear q12); (try clear hx12); (try clear p13); (try clear q13); (try clear hx13); (try clear hf13); (try clear c14); (try clear c18); (try clear c18b0); (try clear c19); (try clear c24); (try clear c24b0); (try clear c24b1); (try clear c26); (try clear c26b0); (try clear c27); (try clear c27b0); (try clear c28); (try clear c28b0); (try clear c28b1); (try clear hx120_0); (try clear hx128_0); (try clear hx13_0); (try clear p1); (try clear p12); (try clear p120); (try clear p128); (try clear p13); (try clear p2); (try clear p6); (try clear q1); (try clear q12); (try clear q120); (try clear q128); (try clear q13)
      obtain ⟨kq, x8_20, rfl, HA, HJ20, HO_4, HB⟩ := hcut
      cases kq with
      | zero => exact absurd HA.out (by simp [bobbinref2_Text.j4])
      | succ kj20 =>
       have H := HA.out
       clear HA
       simp only [bobbinref2_Text.j4] at H
       have H' := md_ H
       clear H
       go_wp2
       go_loopg [9, 10] kj20 (fun kq v9 v10 w' => ∃ (x9_3 : List Int) (x10_3 : Int), v10 = .int .i64 x10_3 ∧ Aside0 (bobbinref2_Text.l4 kq x4_1 x9_3 x10_3 = some r) ∧ Aside0 (kq ≤ kj20) ∧ Aside0 (Kd.R (Kd.int .u8) 5 w' w.heap.size (fun k_ => some k_ ≠ (v9 : Value).ownBlock) (.slice Ao23 x4_1.length co23) x4_1) ∧ Aside0 (Kd.R (Kd.int .u8) 5 w' w.heap.size (fun k_ => some k_ ≠ ((.slice Ao23 x4_1.length co23) : Value).ownBlock) v9 x9_3) ∧ Aside0 (Below w.heap.size w w'))
       case atStart => exact ⟨(([] : List Int)), (wrap64 (x8_20 - 1)), aq_, H', ⟨Nat.le_refl _⟩, ⟨by (with_reducible repeat (first | apply Kd.R_alloc | apply Kd.R_drewN | apply Kd.R_drew)); exact Kd.R_mono HO_4.out (fun _ hk => (by simp [Value.ownBlock]))⟩, ⟨by first | exact Kd.R_nil _ _ _ _ _ | exact Kd.R_nil _ 5 _ 0 (fun _ => False) | exact Kd.R_nil _ 5 _ 0 _ | exact Kd.R_nil _ _ _ _ _ | exact Kd.N_nil _ _ _ _ _ | exact Kd.V_nil _ _ _ _ _ | exact Kd.Q_nil _ _ _ _ _ | exact Kd.S_nil _ _ _ _ _⟩, ⟨bq_ HB.out⟩⟩
       case round =>
        clear H'
        (try clear c1); (try clear p1); (try clear q1); (try clear hx1); (try clear hf1); (try clear c2); (try clear p2); (try clear c3); (try clear c3b0); (try clear c3b1); (try clear c3b2); (try clear c4); (try clear p6); (try clear c8); (try clear c8b0); (try clear c8b1); (try clear c10); (try clear c10b0); (try clear c11); (try clear c11b0); (try clear c12); (try clear c12b0); (try clear p12); (try clear q12); (try clear hx12); (try clear p13); (try clear q13); (try clear hx13); (try clear hf13); (try clear c14); (try clear c18); (try clear c18b0); (try clear c19); (try clear c24); (try clear c24b0); (try clear c24b1); (try clear c26); (try clear c26b0); (try clear c27); (try clear c27b0); (try clear c28); (try clear c28b0); (try clear c28b1); (try clear hx120_0); (try clear hx128_0); (try clear hx13_0); (try clear p1); (try clear p12); (try clear p120); (try clear p128); (try clear p13); (try clear p2); (try clear p6); (try clear q1); (try clear q12); (try clear q120); (try clear q128); (try clear q13)
        obtain ⟨x9_3, x10_3, rfl, HA, HK3, HO_4, HO_9, HB⟩ := hrel
        cases gk with
        | zero => exact absurd HA.out (by simp [bobbinref2_Text.l4])
        | succ k3 =>
         have H := HA.out
         clear HA
         simp only [bobbinref2_Text.l4] at H
         by_cases c29 : x10_3 ≥ 0
         ·rw [if_pos c29] at H
          have c29b0 : decide (0 ≤ x10_3) = true := decide_eq_true c29
          clear c29
          obtain ⟨c30b0, H⟩ := od_ H
          obtain ⟨c31b0, H⟩ := od_ H
          obtain ⟨c32, H⟩ := oi_ H
          have LMc32 := md_ c32
          clear c32
          obtain ⟨y130, hy130⟩ : ∃ y_ : List Int, y_ = (x9_3 ++ [rd x4_1 x10_3]) := ⟨_, rfl⟩
          replace H : (bobbinref2_Text.l4 k3 x4_1 y130 (wrap64 (x10_3 - 1))) = some r := by first | (rw [hy130]; with_reducible exact H) | (have H2_ := (Option.bind_some _ _).symm.trans H; rw [hy130]; with_reducible exact H2_) | (have H2_ := (Option.bind_some _ _).symm.trans H; with_reducible exact H2_) | with_reducible exact H | (rw [hy130]; exact H) | exact H
          have Ny130 := md_ hy130
          clear hy130
          have H' := md_ H
          clear H
          have p129 : 0 ≤ (x10_3 : Int) := oq_
          have q129 : x10_3 < (x4_1.length : Int) := oq_
          obtain ⟨ad129, e129, hx129_0⟩ := Kd.at_int (Kd.R_reads' HO_4.out).2.2 x10_3 p129 q129
          cases e129
          replace p129 := eq_true p129
          replace q129 := eq_true q129
          go_wp2_with (first | ((with_reducible refine gate_builtin (b := .append) (xs := #[.tmp 77, .tmp 82]) rfl ?_); at_builtin; refine Kd.R_append (Kd.int .u8) (w0 := w) w.heap.size rfl (.tmp 77) (.tmp 82) 110 5 (.int .u8 0) 1 rfl Tryz.underlying110 info5 rfl (by decide) (by omega) u9 x9_3 (rd x4_1 x10_3) [.int .u8 (rd x4_1 x10_3)] (fun k_ => some k_ ≠ (.slice (some ad129) x4_1.length co23 : Value).ownBlock) (fun _ => False) rfl rfl ?aP (fun _ hk => hk.elim) ?aF ?aO ?aB ?aS ?aL ?_; (case aP => exact rfl); (case aB => exact (bq_ HB.out)); (case aF => exact (fun k_ hk => Kd.fresh' (Kd.R_lt (rq_ HO_4.out)) k_ hk)); (case aO => exact (rq_ HO_9.out)); (case aS => exact (below_size (bq_ HB.out))); (case aL => have := LMc32.out; omega); intro v131 w33 ho hb hg hat; rw [← Ny130.out] at ho; replace HO_4 := md_ (Kd.R_after (ok := (fun _ => True)) (by (with_reducible repeat (first | apply Kd.R_alloc | apply Kd.R_drewN | apply Kd.R_drew)); exact Kd.R_mono HO_4.out (fun _ hk => ⟨trivial, hk⟩)) hg hat); replace HB := md_ (hb); have HO132 := md_ (ho); clear HO_9; clear ho hb hg hat))
          go_roundg k3
          case measure => have := HK1.out; have := HJ20.out; have := HK3.out; omega
          case rel => exact ⟨(y130), (wrap64 (x10_3 - 1)), aq_, H', ⟨by have := HK1.out; have := HJ20.out; have := HK3.out; omega⟩, ⟨by (with_reducible repeat (first | apply Kd.R_alloc | apply Kd.R_drewN | apply Kd.R_drew)); exact Kd.R_mono HO_4.out (fun _ hk => hk.2)⟩, ⟨rq_ HO132.out⟩, ⟨bq_ HB.out⟩⟩
         ·rw [if_neg c29] at H
          have c29b0 : decide (0 ≤ x10_3) = false := decide_eq_false c29
          clear c29
          obtain rfl := Option.some.inj H
          have hcv34 := own_string (P := Tryz.prog) Tryz.underlying110 Tryz.underlying5 Tryz.underlying9 (Kd.own_of_R HO_9.out)
          go_wp2
          go_ret
          exact ⟨ew_, bq_ HB.out⟩
end Go.Proofs.YtdoeigngpemcgaaGreatDoor.PNatO
namespace Go.Proofs.YtdoeigngpemcgaaGreatDoor.PNat
open Go.RowKit YtdoeigngpemcgaaGreatDoorW.PrintWords YtdoeigngpemcgaaGreatDoorW.PrintLast YtdoeigngpemcgaaGreatDoorW.PrintMore
attribute [local go_sem] max2_int min2_int max_two min_two max_three min_three max_four min_four
def bobbinref2_Text.f (k : Nat) (l0 : List Int) : Option ByteArray := Go.Proofs.YtdoeigngpemcgaaGreatDoor.PNatO.bobbinref2_Text.f k l0
theorem bobbinref2_Text.calls (k : Nat) (A0 : Option Addr) (c0 : Nat) (l0 : List Int) (r : ByteArray) (w : World) (hr0 : Kd.C (Kd.int .u32) w A0 l0.length l0) (hc0 : l0.length ≤ c0) (h : bobbinref2_Text.f k l0 = some r) :
  Calls Tryz.prog 47 #[.slice A0 l0.length c0] w fun e w' => e = .returned (.string r) ∧ Below w.heap.size w w' := Go.Proofs.YtdoeigngpemcgaaGreatDoor.PNatO.bobbinref2_Text.calls k A0 c0 l0 r w hr0 hc0 h
end Go.Proofs.YtdoeigngpemcgaaGreatDoor.PNat
namespace Go.Proofs.YtdoeigngpemcgaaGreatDoor.Pure
open Go.RowKit PNat YtdoeigngpemcgaaGreatDoorW.PrintWords YtdoeigngpemcgaaGreatDoorW.PrintLast YtdoeigngpemcgaaGreatDoorW.PrintMore
theorem ev_norm (l : List Int) (hl : l.length ≤ 1000000000) : Ev (fun k => nat_Norm.f k l) (Num.trimW l) := by
 unfold nat_Norm.f
 refine Ev.bind (ev_trim l hl) ?_
 have := Num.trimW_length_le l
 refine Ev.congr (fun k => ?_) (Ev.now (Num.trimW l))
 simp only [slices_Clone_uint32_uint32.f]
 rw [if_pos (by omega)]
 rfl
theorem take_zero_step {l : List Int} {j : Nat} (hj : j < l.length) (h : rd l (j : Int) = 0) : Num.trimW (l.take (j + 1)) = Num.trimW (l.take j) := by
 rw [List.take_succ_eq_append_getElem hj]
 have e : l[j] = 0 := by simpa [rd, List.getD_eq_getElem?_getD, List.getElem?_eq_getElem hj] using h
 rw [e, Num.trimW_snoc_zero]
theorem take_ne_step {l : List Int} {j : Nat} (hj : j < l.length) (h : ¬ rd l (j : Int) = 0) : Num.trimW (l.take (j + 1)) = l.take (j + 1) := by
 rw [List.take_succ_eq_append_getElem hj]
 have e : l[j] ≠ 0 := by
  intro e
  apply h
  simpa [rd, List.getD_eq_getElem?_getD, List.getElem?_eq_getElem hj] using e
 rw [Num.trimW_snoc_ne _ e]
theorem rnorm_l0 (l : List Int) (hl : l.length ≤ 1000000000) : ∀ i : Nat, i ≤ l.length → Ev (fun k => bobbinref2_Norm.l0 k l (i : Int)) (Num.trimW (l.take i)) := by
 intro i
 induction i with
 | zero =>
  intro _
  refine Ev.step (f := fun _ => some (Num.trimW (l.take 0))) (fun k => ?_) (Ev.now _)
  simp only [bobbinref2_Norm.l0]
  rw [if_neg (by omega), if_pos (by omega), if_pos (by omega), if_pos (by simp)]
  simp [Num.trimW]
 | succ j ih =>
  intro hj
  have e1 : wrap64 (((j + 1 : Nat) : Int) - 1) = (j : Int) := by rw [i64_id (by omega) (by omega)]; omega
  by_cases h : rd l (j : Int) = 0
  ·refine Ev.step (fun k => ?_) (by rw [take_zero_step (by omega) h]; exact ih (by omega))
   simp only [bobbinref2_Norm.l0]
   rw [if_pos (by omega), e1, if_pos (by omega), if_pos (by omega), if_pos h]
  ·refine Ev.step (f := fun _ => some (Num.trimW (l.take (j + 1)))) (fun k => ?_) (Ev.now _)
   simp only [bobbinref2_Norm.l0]
   rw [if_pos (by omega), e1, if_pos (by omega), if_pos (by omega), if_neg h, if_pos (by omega), if_pos (by omega), if_pos (by simp; omega), take_ne_step (by omega) h]
   rfl
theorem ev_rnorm (l : List Int) (hl : l.length ≤ 1000000000) : Ev (fun k => bobbinref2_Norm.f k l) (Num.trimW l) := by
 unfold bobbinref2_Norm.f
 have := rnorm_l0 l hl l.length (Nat.le_refl _)
 rwa [List.take_length] at this
theorem rtrim_l0 (l : List Int) (hl : l.length ≤ 1000000000) : ∀ i : Nat, i ≤ l.length → Ev (fun k => bobbinref2_trimmed.l0 k l (i : Int)) (Num.trimW (l.take i)) := by
 intro i
 induction i with
 | zero =>
  intro _
  refine Ev.step (f := fun _ => some (Num.trimW (l.take 0))) (fun k => ?_) (Ev.now _)
  simp only [bobbinref2_trimmed.l0]
  rw [if_neg (by omega), if_pos (by omega), if_pos (by omega)]
  simp [Num.trimW]
 | succ j ih =>
  intro hj
  have e1 : wrap64 (((j + 1 : Nat) : Int) - 1) = (j : Int) := by rw [i64_id (by omega) (by omega)]; omega
  by_cases h : rd l (j : Int) = 0
  ·refine Ev.step (fun k => ?_) (by rw [take_zero_step (by omega) h]; exact ih (by omega))
   simp only [bobbinref2_trimmed.l0]
   rw [if_pos (by omega), e1, if_pos (by omega), if_pos (by omega), if_pos h]
  ·refine Ev.step (f := fun _ => some (Num.trimW (l.take (j + 1)))) (fun k => ?_) (Ev.now _)
   simp only [bobbinref2_trimmed.l0]
   rw [if_pos (by omega), e1, if_pos (by omega), if_pos (by omega), if_neg h, if_pos (by omega), if_pos (by omega), take_ne_step (by omega) h]
   rfl
theorem ev_rtrim (l : List Int) (hl : l.length ≤ 1000000000) : Ev (fun k => bobbinref2_trimmed.f k l) (Num.trimW l) := by
 unfold bobbinref2_trimmed.f
 have := rtrim_l0 l hl l.length (Nat.le_refl _)
 rwa [List.take_length] at this
open Go.Proofs.YtdoeigngpemcgaaGreatDoor.PNatO in
theorem otrim_l0 (l : List Int) (hl : l.length ≤ 1000000000) : ∀ i : Nat, i ≤ l.length → Ev (fun k => PNatO.bobbinref2_trimmed.l0 k l (i : Int)) (Num.trimW (l.take i)) := by
 intro i
 induction i with
 | zero =>
  intro _
  refine Ev.step (f := fun _ => some (Num.trimW (l.take 0))) (fun k => ?_) (Ev.now _)
  simp only [PNatO.bobbinref2_trimmed.l0]
  rw [if_neg (by omega), if_pos (by omega), if_pos (by omega)]
  simp [Num.trimW]
 | succ j ih =>
  intro hj
  have e1 : wrap64 (((j + 1 : Nat) : Int) - 1) = (j : Int) := by rw [i64_id (by omega) (by omega)]; omega
  by_cases h : rd l (j : Int) = 0
  ·refine Ev.step (fun k => ?_) (by rw [take_zero_step (by omega) h]; exact ih (by omega))
   simp only [PNatO.bobbinref2_trimmed.l0]
   rw [if_pos (by omega), e1, if_pos (by omega), if_pos (by omega), if_pos h]
  ·refine Ev.step (f := fun _ => some (Num.trimW (l.take (j + 1)))) (fun k => ?_) (Ev.now _)
   simp only [PNatO.bobbinref2_trimmed.l0]
   rw [if_pos (by omega), e1, if_pos (by omega), if_pos (by omega), if_neg h, if_pos (by omega), if_pos (by omega), take_ne_step (by omega) h]
   rfl
theorem ev_otrim (l : List Int) (hl : l.length ≤ 1000000000) : Ev (fun k => PNatO.bobbinref2_trimmed.f k l) (Num.trimW l) := by
 unfold PNatO.bobbinref2_trimmed.f
 have := otrim_l0 l hl l.length (Nat.le_refl _)
 rwa [List.take_length] at this
theorem onorm_l0 (l : List Int) (hl : l.length ≤ 1000000000) : ∀ i : Nat, i ≤ l.length → Ev (fun k => PNat.bobbinref2_Norm.l0 k l (i : Int)) (Num.trimW (l.take i)) := by
 intro i
 induction i with
 | zero =>
  intro _
  refine Ev.step (f := fun _ => some (Num.trimW (l.take 0))) (fun k => ?_) (Ev.now _)
  simp only [PNat.bobbinref2_Norm.l0]
  rw [if_neg (by omega), if_pos (by omega), if_pos (by omega), if_pos (by simp)]
  simp [Num.trimW]
 | succ j ih =>
  intro hj
  have e1 : wrap64 (((j + 1 : Nat) : Int) - 1) = (j : Int) := by rw [i64_id (by omega) (by omega)]; omega
  by_cases h : rd l (j : Int) = 0
  ·refine Ev.step (fun k => ?_) (by rw [take_zero_step (by omega) h]; exact ih (by omega))
   simp only [PNat.bobbinref2_Norm.l0]
   rw [if_pos (by omega), e1, if_pos (by omega), if_pos (by omega), if_pos h]
  ·refine Ev.step (f := fun _ => some (Num.trimW (l.take (j + 1)))) (fun k => ?_) (Ev.now _)
   simp only [PNat.bobbinref2_Norm.l0]
   rw [if_pos (by omega), e1, if_pos (by omega), if_pos (by omega), if_neg h, if_pos (by omega), if_pos (by omega), if_pos (by simp; omega), take_ne_step (by omega) h]
   rfl
theorem ev_onorm (l : List Int) (hl : l.length ≤ 1000000000) : Ev (fun k => PNat.bobbinref2_Norm.f k l) (Num.trimW l) := by
 unfold PNat.bobbinref2_Norm.f
 have := onorm_l0 l hl l.length (Nat.le_refl _)
 rwa [List.take_length] at this
theorem or_join {c x : Int} (hc0 : 0 ≤ c) (hc1 : c < 1000000000) (hx0 : 0 ≤ x) (hx1 : x < 4294967296) : bits .or .u64 (IntKind.u64.wrap (c * 4294967296)) (IntKind.u64.wrap x) = c * 4294967296 + x := by
 rw [u64_id (x := c * 4294967296) (by omega) (by omega), u64_id hx0 (by omega), u64_or _ _ (by omega) (by omega) (by omega) (by omega), nat_join 32 _ _ (by omega) (by omega)]
 omega
def rev9 (n : Int) : List Int := (List.range 9).map fun t => 48 + n / 10 ^ t % 10
theorem div_10 (n : Int) (k : Nat) : n / 10 ^ k / 10 = n / 10 ^ (k + 1) := by
 rw [Int.ediv_ediv_of_nonneg (Int.pow_nonneg (by decide)), Int.pow_succ]
theorem rtext_l2 (m b : List Int) (c : Int) (hc0 : 0 ≤ c) (hc1 : c < 1000000000) (R : ByteArray) (hb : b.length ≤ 100000000) (hR : Ev (fun k => PNatO.bobbinref2_Text.l0 k m (b ++ rev9 c)) R) (d : Nat) : ∀ t : Nat, t + d = 9 →
  Ev (fun k => PNatO.bobbinref2_Text.l2 k m (b ++ (List.range t).map (fun t => 48 + c / 10 ^ t % 10)) (c / 10 ^ t) (t : Int)) R := by
 induction d with
 | zero =>
  intro t ht
  obtain rfl : t = 9 := by omega
  refine Ev.step (fun k => ?_) hR
  simp only [PNatO.bobbinref2_Text.l2]
  rw [if_neg (by omega)]
  rfl
 | succ d ih =>
  intro t ht
  have h0 : 0 ≤ c / 10 ^ t := Int.ediv_nonneg hc0 (Int.pow_nonneg (by decide))
  have h1 : c / 10 ^ t < 1000000000 := Int.lt_of_le_of_lt (Int.ediv_le_self _ hc0) hc1
  refine Ev.step (fun k => ?_) (ih (t + 1) (by omega))
  simp only [PNatO.bobbinref2_Text.l2]
  rw [if_pos (by omega), if_pos (by simp; omega), i64_id (by omega) (by omega), List.range_succ, List.map_append, ← List.append_assoc]
  have e1 : IntKind.u64.wrap (48 + (c / 10 ^ t).tmod 10) % 256 = 48 + c / 10 ^ t % 10 := by
   rw [Int.tmod_eq_emod_of_nonneg h0, u64_id (by omega) (by omega)]
   omega
  have e2 : IntKind.u64.wrap ((c / 10 ^ t).tdiv 10) = c / 10 ^ (t + 1) := by
   rw [Int.tdiv_eq_ediv_of_nonneg h0, u64_id (by omega) (by omega), div_10]
  rw [e1, e2]
  rfl
theorem rtext_l1 (ml b : List Int) (hok : Num.okW ml) (hlen : ml.length ≤ 1000000) (R : ByteArray)
  (hR : Ev (fun k => PNatO.bobbinref2_Text.l2 k (Num.trimW (Num.shq 1000000000 ml).1) b (Num.shq 1000000000 ml).2 0) R) : ∀ (j : Nat) (cur : List Int) (c : Int), j ≤ ml.length → cur.length = ml.length → cur.take j = ml.take j → cur.drop j = (Num.shq 1000000000 (ml.drop j)).1 → c = (Num.shq 1000000000 (ml.drop j)).2 →
   Ev (fun k => PNatO.bobbinref2_Text.l1 k cur b c ((j : Int) - 1)) R := by
 intro j
 induction j with
 | zero =>
  intro cur c hj hl ht hd hc
  have e1 : cur = (Num.shq 1000000000 ml).1 := by simpa using hd
  have e2 : c = (Num.shq 1000000000 ml).2 := by simpa using hc
  refine Ev.step (f := fun k => (PNatO.bobbinref2_trimmed.f k cur).bind fun t => PNatO.bobbinref2_Text.l2 k t b c 0) (fun k => ?_) ?_
  ·simp only [PNatO.bobbinref2_Text.l1]
   rw [if_neg (by omega)]
  ·refine Ev.bind (ev_otrim cur (by omega)) ?_
   rw [e1, e2]
   exact hR
 | succ j ih =>
  intro cur c hj hl ht hd hc
  have hr := Num.shq_rest (d := 1000000000) (by decide) (ml.drop (j + 1))
  rw [← hc] at hr
  have hx : rd cur (j : Int) = ml[j]'(by omega) := cur_get hl (by omega) ht
  have hxr := hok (ml[j]'(by omega)) (List.getElem_mem _)
  have e0 : (((j + 1 : Nat) : Int) - 1) = (j : Int) := by omega
  have hs := shq_cons_step 1000000000 ml j (by omega)
  rw [← hc] at hs
  have hq0 : 0 ≤ (c * 4294967296 + ml[j]'(by omega)) / 1000000000 := by omega
  have hq1 : (c * 4294967296 + ml[j]'(by omega)) / 1000000000 < 4294967296 := by omega
  refine Ev.step (fun k => ?_) (ih (cur.set j ((c * 4294967296 + ml[j]'(by omega)) / 1000000000)) ((c * 4294967296 + ml[j]'(by omega)) % 1000000000) (by omega) (by rw [List.length_set]; exact hl) (cur_take _ ht) ?_ ?_)
  ·simp only [PNatO.bobbinref2_Text.l1]
   rw [e0, if_pos (by omega), if_pos (by omega), if_pos (by omega), hx, or_join hr.1 hr.2 hxr.1 hxr.2, Int.tdiv_eq_ediv_of_nonneg (by omega), Int.tmod_eq_emod_of_nonneg (by omega), u64_id (by omega) (by omega), Int.emod_eq_of_lt hq0 hq1, i64_id (by omega) (by omega)]
   rfl
  ·rw [cur_drop _ (by omega), hd, hs]
  ·rw [hs]
theorem rtext_l4 (b : List Int) (hb : b.length ≤ 100000000) : ∀ (i : Nat) (acc : List Int), i ≤ b.length → acc.length + i ≤ 100000000 →
  Ev (fun k => PNatO.bobbinref2_Text.l4 k b acc ((i : Int) - 1)) (strOfNums (acc ++ (b.take i).reverse)) := by
 intro i
 induction i with
 | zero =>
  intro acc _ _
  refine Ev.step (f := fun _ => some (strOfNums (acc ++ (b.take 0).reverse))) (fun k => ?_) (Ev.now _)
  simp only [PNatO.bobbinref2_Text.l4]
  rw [if_neg (by omega)]
  simp
 | succ i ih =>
  intro acc hi ha
  have e0 : (((i + 1 : Nat) : Int) - 1) = (i : Int) := by omega
  have hg : rd b (i : Int) = b[i]'(by omega) := by simp [rd, List.getD_eq_getElem?_getD, List.getElem?_eq_getElem (show i < b.length by omega)]
  have key := ih (acc ++ [b[i]'(by omega)]) (by omega) (by simp; omega)
  rw [List.take_succ_eq_append_getElem (show i < b.length by omega), List.reverse_append]
  rw [List.append_assoc] at key
  refine Ev.step (fun k => ?_) key
  simp only [PNatO.bobbinref2_Text.l4]
  rw [e0, if_pos (by omega), if_pos (by omega), if_pos (by omega), if_pos (by omega), hg, i64_id (by omega) (by omega)]
theorem rtext_j4 (b : List Int) (hb : b.length ≤ 90000000) (n : Nat) (hn : n ≤ b.length) : Ev (fun k => PNatO.bobbinref2_Text.j4 k b (n : Int)) (strOfNums (b.take n).reverse) := by
 refine Ev.step (f := fun k => PNatO.bobbinref2_Text.l4 k b [] ((n : Int) - 1)) (fun k => ?_) ?_
 ·simp only [PNatO.bobbinref2_Text.j4]
  rw [i64_id (by omega) (by omega)]
 ·exact rtext_l4 b (by omega) n [] hn (by simp; omega)
theorem rtext_l3 (b : List Int) (hb : b.length ≤ 90000000) : ∀ n : Nat, n ≤ b.length → (∃ c ∈ b.take n, c ≠ 48) →
  Ev (fun k => PNatO.bobbinref2_Text.l3 k b (n : Int)) (strOfNums ((b.take n).reverse.dropWhile (· == 48))) := by
 intro n
 induction n with
 | zero => rintro _ ⟨c, hc, _⟩; simp at hc
 | succ j ih =>
  rintro hn ⟨c, hc, hcne⟩
  have hg : rd b (j : Int) = b[j]'(by omega) := by simp [rd, List.getD_eq_getElem?_getD, List.getElem?_eq_getElem (show j < b.length by omega)]
  rw [List.take_succ_eq_append_getElem (show j < b.length by omega)] at hc
  by_cases h48 : b[j]'(by omega) = 48
  ·have hc2 : c ∈ b.take j := by
    rcases List.mem_append.1 hc with h | h
    ·exact h
    ·simp only [List.mem_singleton] at h
     exact absurd (h.trans h48) hcne
   have hj : 0 < j := by
    rcases Nat.eq_zero_or_pos j with h | h
    ·subst h; simp at hc2
    ·exact h
   refine Ev.step (fun k => ?_) (by
    rw [List.take_succ_eq_append_getElem (show j < b.length by omega), h48, List.reverse_append]
    exact ih (by omega) ⟨c, hc2, hcne⟩)
   simp only [PNatO.bobbinref2_Text.l3]
   have e1 : wrap64 (((j + 1 : Nat) : Int) - 1) = (j : Int) := by rw [i64_id (by omega) (by omega)]; omega
   rw [if_pos (by omega), e1, if_pos (by omega), if_pos (by omega), hg, if_pos h48]
  ·have e2 : (b.take (j + 1)).reverse.dropWhile (· == 48) = (b.take (j + 1)).reverse := by
    rw [List.take_succ_eq_append_getElem (show j < b.length by omega), List.reverse_append]
    simp [h48]
   rw [e2]
   refine Ev.step (fun k => ?_) (rtext_j4 b hb (j + 1) hn)
   simp only [PNatO.bobbinref2_Text.l3]
   by_cases h1 : 0 < j
   ·have e1 : wrap64 (((j + 1 : Nat) : Int) - 1) = (j : Int) := by rw [i64_id (by omega) (by omega)]; omega
    rw [if_pos (by omega), e1, if_pos (by omega), if_pos (by omega), hg, if_neg h48]
   ·rw [if_neg (by omega)]
theorem rtext_l0 (v : Nat) : ∀ (ml b : List Int), Num.valN ml = v → Num.okW ml → Num.normed ml → ml.length ≤ 1000000 → b.length + 9 * (Num.pcs v).length ≤ 90000000 → (∃ c ∈ b ++ (Num.pcs v).flatMap rev9, c ≠ 48) →
  Ev (fun k => PNatO.bobbinref2_Text.l0 k ml b) (strOfNums ((b ++ (Num.pcs v).flatMap rev9).reverse.dropWhile (· == 48))) := by
 induction v using Nat.strongRecOn with
 | _ v ih =>
  intro ml b hv hok hn hlen hb hex
  by_cases hm : ml = []
  ·subst hm
   have hv0 : v = 0 := hv.symm
   subst hv0
   rw [Num.pcs_zero] at hex hb ⊢
   simp only [List.flatMap_nil, List.append_nil] at hex ⊢
   have key := rtext_l3 b (by simp at hb; omega) b.length (Nat.le_refl _) (by rw [List.take_length]; exact hex)
   rw [List.take_length] at key
   refine Ev.step (fun k => ?_) key
   simp only [PNatO.bobbinref2_Text.l0]
   rw [if_neg (by simp)]
  ·have hpos : 0 < v := by
    rcases Nat.eq_zero_or_pos v with h | h
    ·exact absurd (by rw [← hn]; exact (Num.valN_zero hok).1 (hv.trans h)) hm
    ·exact h
   have hlp : 0 < ml.length := List.length_pos_iff.2 hm
   obtain ⟨e1, e2⟩ := Num.shq_val (d := 1000000000) (by decide) hok
   have e3 : Num.valN (Num.trimW (Num.shq 1000000000 ml).1) = v / 1000000000 := by rw [Num.trimW_val, e1, hv]; rfl
   have e4 : (Num.shq 1000000000 ml).2 = ((v % 1000000000 : Nat) : Int) := by rw [e2, hv]; rfl
   have hr := Num.shq_rest (d := 1000000000) (by decide) ml
   rw [Num.pcs_pos hpos] at hex hb ⊢
   simp only [List.flatMap_cons, List.length_cons] at hex hb ⊢
   rw [← e4] at hex ⊢
   rw [← List.append_assoc] at hex ⊢
   have hr9 : (rev9 (Num.shq 1000000000 ml).2).length = 9 := by simp [rev9]
   have key := ih (v / 1000000000) (Nat.div_lt_self hpos (by decide)) (Num.trimW (Num.shq 1000000000 ml).1) (b ++ rev9 (Num.shq 1000000000 ml).2) e3 (Num.okW_trim (Num.shq_ok (by decide) hok)) (Num.normed_trim _)
    (by have := Num.trimW_length_le (Num.shq 1000000000 ml).1; rw [Num.shq_length] at this; omega) (by rw [List.length_append, hr9]; omega) hex
   have h2 := rtext_l2 (Num.trimW (Num.shq 1000000000 ml).1) b (Num.shq 1000000000 ml).2 hr.1 hr.2 _ (by omega) key 9 0 (by omega)
   have h2' := h2
   simp only [List.range_zero, List.map_nil, List.append_nil, Int.pow_zero, Int.ediv_one] at h2'
   have h1 := rtext_l1 ml b hok hlen _ h2' ml.length ml 0 (Nat.le_refl _) rfl rfl (by simp [Num.shq]) (by simp [Num.shq])
   refine Ev.step (fun k => ?_) h1
   simp only [PNatO.bobbinref2_Text.l0]
   rw [if_pos (by omega), i64_id (by omega) (by omega)]
theorem pcs_ne (v : Nat) (h : 0 < v) : ∃ z ∈ Num.pcs v, 0 < z ∧ z < 1000000000 := by
 induction v using Nat.strongRecOn with
 | _ v ih =>
  rw [Num.pcs_pos h]
  by_cases h1 : v % 1000000000 = 0
  ·obtain ⟨z, hz, h2⟩ := ih (v / 1000000000) (Nat.div_lt_self h (by decide)) (by omega)
   exact ⟨z, List.mem_cons_of_mem _ hz, h2⟩
  ·exact ⟨_, List.mem_cons_self, by omega⟩
theorem rev9_ne (z : Int) (h0 : 0 < z) (h1 : z < 1000000000) : ∃ c ∈ rev9 z, c ≠ 48 := by
 apply Classical.byContradiction
 intro hn
 have key : ∀ t, t < 9 → z / 10 ^ t % 10 = 0 := by
  intro t ht
  apply Classical.byContradiction
  intro h
  exact hn ⟨48 + z / 10 ^ t % 10, List.mem_map.2 ⟨t, List.mem_range.2 ht, rfl⟩, by omega⟩
 have k0 := key 0 (by decide); have k1 := key 1 (by decide); have k2 := key 2 (by decide); have k3 := key 3 (by decide); have k4 := key 4 (by decide)
 have k5 := key 5 (by decide); have k6 := key 6 (by decide); have k7 := key 7 (by decide); have k8 := key 8 (by decide)
 simp only [Int.pow_zero, Int.reducePow] at k0 k1 k2 k3 k4 k5 k6 k7 k8
 omega
theorem dropWhile_map (l : List Int) (h : ∀ z ∈ l, 0 ≤ z ∧ z < 256) : (l.dropWhile (· == 48)).map (fun z => UInt8.ofNat z.toNat) = (l.map (fun z => UInt8.ofNat z.toNat)).dropWhile (· == 48) := by
 induction l with
 | nil => rfl
 | cons z zs ih =>
  have hz := h z List.mem_cons_self
  have ih := ih (fun x hx => h x (List.mem_cons_of_mem _ hx))
  by_cases e : z = 48
  ·subst e
   simpa using ih
  ·have e2 : ¬ UInt8.ofNat z.toNat = 48 := by
    intro h2
    have := congrArg UInt8.toNat h2
    rw [UInt8.toNat_ofNat_of_lt' (by simp [UInt8.size]; omega)] at this
    have h3 : (48 : UInt8).toNat = 48 := rfl
    omega
   simp [e, e2]
theorem ev_rtext (l : List Int) (hok : Num.okW l) (hlen : l.length ≤ 1000000) : Ev (fun k => bobbinref2_Text.f k l) ⟨(Num.textN (Num.valN l)).toArray⟩ := by
 unfold bobbinref2_Text.f PNatO.bobbinref2_Text.f
 refine Ev.bind (ev_onorm l (by omega)) ?_
 by_cases h0 : Num.valN l = 0
 ·have e := (Num.valN_zero hok).1 h0
  rw [e, h0]
  exact Ev.now _
 ·have hne : Num.trimW l ≠ [] := fun h => h0 ((Num.valN_zero hok).2 h)
  have hpos : ¬ ((Num.trimW l).length : Int) = 0 := by
   have := List.length_pos_iff.2 hne
   omega
  refine Ev.congr (f := fun k => PNatO.bobbinref2_Text.l0 k (Num.trimW l) []) (fun k => by rw [if_neg hpos]) ?_
  have hpl : (Num.pcs (Num.valN l)).length ≤ 2 * l.length := Num.pcs_len _ _ (by rw [Nat.pow_mul]; exact Num.valN_lt hok)
  obtain ⟨z, hz, hz0, hz1⟩ := pcs_ne (Num.valN l) (by omega)
  obtain ⟨c, hc, hc48⟩ := rev9_ne z hz0 hz1
  have key := rtext_l0 (Num.valN l) (Num.trimW l) [] (Num.trimW_val l) (Num.okW_trim hok) (Num.normed_trim l) (by have := Num.trimW_length_le l; omega) (by simp; omega) ⟨c, by simpa using ⟨z, hz, hc⟩, hc48⟩
  have e : strOfNums (([] ++ (Num.pcs (Num.valN l)).flatMap rev9).reverse.dropWhile (· == 48)) = ⟨(Num.textN (Num.valN l)).toArray⟩ := by
   unfold strOfNums Num.textN
   rw [if_neg h0, List.nil_append, dropWhile_map _ (by
    intro y hy
    rw [List.mem_reverse] at hy
    obtain ⟨z, _, hy⟩ := List.mem_flatMap.1 hy
    obtain ⟨t, _, rfl⟩ := List.mem_map.1 hy
    have h1 := Int.emod_nonneg (z / 10 ^ t) (show (10 : Int) ≠ 0 by decide)
    have h2 := Int.emod_lt_of_pos (z / 10 ^ t) (show (0 : Int) < 10 by decide)
    omega), List.reverse_flatMap, List.map_flatMap]
   congr 3
  rw [← e]
  exact key
end Go.Proofs.YtdoeigngpemcgaaGreatDoor.Pure
namespace Go.Num
end Go.Num
namespace Go.Proofs.YtdoeigngpemcgaaGreatDoor.Pure
open Go.RowKit PNat YtdoeigngpemcgaaGreatDoorW.PrintWords YtdoeigngpemcgaaGreatDoorW.PrintLast YtdoeigngpemcgaaGreatDoorW.PrintMore
theorem rbits_l0 (d : Nat) : ∀ (x s : Nat), Num.bitsN x = d → s + d ≤ 100000000000 → x < 4294967296 → Ev (fun k => bobbinref2_Bits.l0 k (s : Int) (x : Int)) ((s + d : Nat) : Int) := by
 induction d with
 | zero =>
  intro x s hx hs _
  have h0 : x = 0 := by
   rcases Nat.eq_zero_or_pos x with h | h
   ·exact h
   ·have := Num.bitsN_pos h; omega
  subst h0
  refine Ev.step (f := fun _ => some (s : Int)) (fun k => ?_) (Ev.now _)
  simp only [bobbinref2_Bits.l0]
  rw [if_neg (by omega)]
 | succ d ih =>
  intro x s hx hs hlt
  have h0 : 0 < x := by
   rcases Nat.eq_zero_or_pos x with h | h
   ·rw [h, Num.bitsN_zero] at hx; omega
   ·exact h
  have h1 : Num.bitsN (x / 2) = d := by
   rcases Nat.eq_zero_or_pos (x / 2) with h | h
   ·have : x = 1 := by omega
    rw [this] at hx
    have h2 : Num.bitsN 1 = 1 := Num.bitsN_eq (n := 0) (by decide) (by decide)
    rw [h2] at hx
    rw [h, Num.bitsN_zero]; omega
   ·have h3 := Num.bitsN_mul h 1 (x % 2) (by omega)
    rw [show x / 2 * 2 ^ 1 + x % 2 = x by rw [Nat.pow_one]; omega] at h3
    omega
  have h2 := ih (x / 2) (s + 1) h1 (by omega) (by omega)
  rw [show s + (d + 1) = s + 1 + d by omega]
  refine Ev.step (fun k => ?_) h2
  simp only [bobbinref2_Bits.l0]
  rw [if_pos (by omega), i64_id (by omega) (by omega)]
  rfl
theorem ev_rbits (l : List Int) (ok : Num.okW l) (hl : l.length ≤ 100000000) : Ev (fun k => bobbinref2_Bits.f k l) ((Num.bitsN (Num.valN l) : Nat) : Int) := by
 unfold bobbinref2_Bits.f
 refine Ev.bind (ev_rtrim l (by omega)) ?_
 have b0 := Num.trimW_length_le l
 have ht := Num.okW_trim ok
 rw [← Num.trimW_val l]
 have hn := Num.normed_trim l
 generalize Num.trimW l = t at b0 ht hn ⊢
 cases hm : t.length with
 | zero =>
  have : t = [] := List.length_eq_zero_iff.1 hm
  subst this
  refine Ev.congr (f := fun _ => some 0) (fun k => by rw [if_pos (by simp)]) (Ev.now _)
 | succ n =>
  have e : wrap64 (((n + 1 : Nat) : Int) - 1) = (n : Int) := by rw [i64_id (by omega) (by omega)]; omega
  have o := rd_ok ht n
  rw [Num.bitsN_words ht hn n hm]
  have e2 : (rd t (n : Int)).toNat = (t.getD n 0).toNat := rd_toNat t n
  have e4 : rd t (n : Int) = (((t.getD n 0).toNat : Nat) : Int) := by omega
  refine Ev.congr (fun k => ?_) (rbits_l0 _ (t.getD n 0).toNat (32 * n) rfl (by have h1 := Num.bitsN_mono (show (t.getD n 0).toNat ≤ 4294967295 by omega); have h2 : Num.bitsN 4294967295 = 32 := Num.bitsN_eq (by decide) (by decide); omega) (by omega))
  rw [if_neg (by omega), e, if_pos (by omega), if_pos (by omega), i64_id (x := 32 * (n : Int)) (by omega) (by omega), e4]
  rfl
theorem radd_l0 {a b : List Int} (oa : Num.okW a) (ob : Num.okW b) (ha : a.length ≤ 100000000) (hb : b.length ≤ 100000000) (d : Nat) : ∀ (i : Nat) (dn : List Int) (c : Int), i + d = max a.length b.length → dn.length = i → Num.okW dn → 0 ≤ c ∧ c ≤ 1 →
  Num.valN dn + 4294967296 ^ i * c.toNat = Num.valN (a.take i) + Num.valN (b.take i) →
  Ev (fun k => bobbinref2_Add.l0 k a b dn c (i : Int)) (Num.wordsN (Num.valN a + Num.valN b)) := by
 induction d with
 | zero =>
  intro i dn c hi hd od hc hv
  have h1 : a.length ≤ i := by omega
  have h2 : b.length ≤ i := by omega
  refine Ev.step (f := fun k => bobbinref2_Add.j1 k a b dn c (i : Int) false) (fun k => ?_) ?_
  ·simp only [bobbinref2_Add.l0]
   rw [if_neg (by omega), decide_eq_false (by omega)]
  ·refine Ev.step (f := fun k => (bobbinref2_Norm.f k (dn ++ [c])).bind fun t => some t) (fun k => ?_) ?_
   ·simp only [bobbinref2_Add.j1]
    rw [if_neg (by simp), if_pos (by omega), Int.emod_eq_of_lt (show 0 ≤ c by omega) (by omega)]
   ·refine Ev.bind (ev_rnorm _ (by simp only [List.length_append, List.length_cons, List.length_nil]; omega)) ?_
    rw [Num.trim_words (Num.okW_snoc od hc.1 (by omega)), Num.val_snoc, hd, hv, List.take_of_length_le (by omega), List.take_of_length_le (by omega)]
    exact Ev.now _
 | succ d ih =>
  intro i dn c hi hd od hc hv
  have ox := rd_ok oa i
  have oy := rd_ok ob i
  have hn := ih (i + 1) (dn ++ [(rd a (i : Int) + rd b (i : Int) + c) % 4294967296]) ((rd a (i : Int) + rd b (i : Int) + c) / 4294967296) (by omega) (by simp [hd]) (Num.okW_snoc od (by omega) (by omega)) (by omega) (by
   rw [Num.val_snoc, hd, Num.val_take_next, Num.val_take_next, ← rd_toNat, ← rd_toNat, Nat.pow_succ]
   have := carry_step (x := (rd a (i : Int)).toNat) (y := (rd b (i : Int)).toNat) hv
   rw [show ((rd a (i : Int) + rd b (i : Int) + c) % 4294967296).toNat = ((rd a (i : Int)).toNat + (rd b (i : Int)).toNat + c.toNat) % 4294967296 by omega, show ((rd a (i : Int) + rd b (i : Int) + c) / 4294967296).toNat = ((rd a (i : Int)).toNat + (rd b (i : Int)).toNat + c.toNat) / 4294967296 by omega]
   exact this)
  refine Ev.step (f := fun k => bobbinref2_Add.j1 k a b dn c (i : Int) true) (fun k => ?_) ?_
  ·simp only [bobbinref2_Add.l0]
   by_cases h1 : (i : Int) < (a.length : Int)
   ·rw [if_pos h1]
   ·rw [if_neg h1, decide_eq_true (by omega)]
  ·refine Ev.step (fun k => ?_) hn
   simp only [bobbinref2_Add.j1, if_true]
   rw [i64_id (show -9223372036854775808 ≤ (i : Int) + 1 by omega) (by omega)]
   by_cases h1 : (i : Int) < (a.length : Int)
   ·rw [if_pos h1, if_pos (by omega)]
    by_cases h2 : (i : Int) < (b.length : Int)
    ·have eT : IntKind.u64.wrap (IntKind.u64.wrap (c + IntKind.u64.wrap (rd a (i : Int))) + IntKind.u64.wrap (rd b (i : Int))) = rd a (i : Int) + rd b (i : Int) + c := by simp only [u64_mod]; omega
     rw [if_pos h2, if_pos (by omega), eT]
     rfl
    ·have h0 : rd b (i : Int) = 0 := rd_beyond (by omega)
     have eT : IntKind.u64.wrap (c + IntKind.u64.wrap (rd a (i : Int))) = rd a (i : Int) + rd b (i : Int) + c := by rw [h0]; simp only [u64_mod]; omega
     rw [if_neg h2, if_pos (by omega), eT]
     rfl
   ·have h2 : (i : Int) < (b.length : Int) := by omega
    have h0 : rd a (i : Int) = 0 := rd_beyond (by omega)
    have eT : IntKind.u64.wrap (c + IntKind.u64.wrap (rd b (i : Int))) = rd a (i : Int) + rd b (i : Int) + c := by rw [h0]; simp only [u64_mod]; omega
    rw [if_neg h1, if_pos h2, if_pos (by omega), if_pos (by omega), eT]
    rfl
theorem ev_radd (l0 l1 : List Int) (o0 : Num.okW l0) (o1 : Num.okW l1) (h0 : l0.length ≤ 100000000) (h1 : l1.length ≤ 100000000) : Ev (fun k => bobbinref2_Add.f k l0 l1) (Num.wordsN (Num.valN l0 + Num.valN l1)) := by
 unfold bobbinref2_Add.f
 exact radd_l0 o0 o1 h0 h1 (max l0.length l1.length) 0 [] 0 (by omega) rfl Num.okW_nil (by omega) (by simp [Num.valN])
end Go.Proofs.YtdoeigngpemcgaaGreatDoor.Pure
namespace Go.Proofs.YtdoeigngpemcgaaGreatDoor.natSums
open Go.ChangeShapes Go.WideShapes Go.ChangeAt Go.RowKit
open Go.ChangeMaps (open_string shut_string)
end Go.Proofs.YtdoeigngpemcgaaGreatDoor.natSums
namespace Go.Proofs.YtdoeigngpemcgaaGreatDoor
end Go.Proofs.YtdoeigngpemcgaaGreatDoor
namespace Go.Proofs.YtdoeigngpemcgaaGreatDoor.Dec
open Go.RowKit PNat Go.Proofs.YtdoeigngpemcgaaGreatDoor.Pure YtdoeigngpemcgaaGreatDoorW.PrintWords YtdoeigngpemcgaaGreatDoorW.PrintLast YtdoeigngpemcgaaGreatDoorW.PrintMore
theorem wordsN_len {v n : Nat} (h : v < 4294967296 ^ n) : (Num.wordsN v).length ≤ n := by
 rcases Nat.lt_or_ge n (Num.wordsN v).length with c | c
 ·obtain ⟨m, hm⟩ : ∃ m, (Num.wordsN v).length = m + 1 := ⟨(Num.wordsN v).length - 1, by omega⟩
  have h1 := Num.val_ge (Num.wordsN_ok v) (Num.wordsN_normed v) m hm
  rw [Num.wordsN_val] at h1
  have h2 : 4294967296 ^ n ≤ 4294967296 ^ m := Nat.pow_le_pow_right (by decide) (by omega)
  omega
 ·exact c
theorem wordsN_len_ge {v n : Nat} (h : 4294967296 ^ n ≤ v) : n < (Num.wordsN v).length := by
 rcases Nat.lt_or_ge n (Num.wordsN v).length with c | c
 ·exact c
 ·have h1 := Num.valN_lt (Num.wordsN_ok v)
  rw [Num.wordsN_val] at h1
  have h2 : 4294967296 ^ (Num.wordsN v).length ≤ 4294967296 ^ n := Nat.pow_le_pow_right (by decide) c
  omega
def Nm (w : World) (v : Value) (n : Nat) : Prop := Kd.V (Kd.int .u32) 35 w 0 (fun _ => True) v (Num.wordsN n)
def Fit (n : Nat) : Prop := (Num.wordsN n).length ≤ 2000
theorem fit_iff {n k : Nat} : (Num.wordsN n).length ≤ k ↔ n < 4294967296 ^ k := by
 constructor
 ·intro h
  rcases Nat.lt_or_ge n (4294967296 ^ k) with d | d
  ·exact d
  ·have := wordsN_len_ge d
   omega
 ·exact wordsN_len
theorem len_lt {n b k : Nat} (h : n < 2 ^ b) (hb : b ≤ 32 * k) : (Num.wordsN n).length ≤ k := by
 refine wordsN_len (Nat.lt_of_lt_of_le h ?_)
 rw [show (4294967296 : Nat) = 2 ^ 32 from rfl, ← Nat.pow_mul]
 exact Nat.pow_le_pow_right (by omega) hb
theorem len_le {m n k : Nat} (h : (Num.wordsN n).length ≤ k) (hm : m ≤ n) : (Num.wordsN m).length ≤ k := fit_iff.2 (Nat.lt_of_le_of_lt hm (fit_iff.1 h))
theorem fit_lt {n b : Nat} (h : n < 2 ^ b) (hb : b ≤ 64000) : Fit n := len_lt h (by omega)
theorem fit_le {m n : Nat} (h : Fit n) (hm : m ≤ n) : Fit m := len_le h hm
theorem Nm.open {w : World} {v : Value} {n : Nat} (h : Nm w v n) : ∃ A c, v = .slice A (Num.wordsN n).length c ∧ (Num.wordsN n).length ≤ c ∧ Kd.C (Kd.int .u32) w A (Num.wordsN n).length (Num.wordsN n) ∧ Kd.V (Kd.int .u32) 35 w w.heap.size (fun _ => True) (.slice A (Num.wordsN n).length c) (Num.wordsN n) := by
 obtain ⟨A, c, rfl⟩ := Kd.V_slice h
 obtain ⟨_, h2, h3⟩ := Kd.V_reads' h
 exact ⟨A, c, rfl, h2, h3, Kd.V_map h (fun _ hf => hf)⟩
theorem Nm.below {w w1 : World} {v : Value} {n : Nat} (h : Nm w v n) (hb : Below w.heap.size w w1) : Nm w1 v n := Kd.V_below h hb
theorem Nm.of_V {w : World} {b : Nat} {ok : Nat → Prop} {v : Value} {n : Nat} (h : Kd.V (Kd.int .u32) 35 w b ok v (Num.wordsN n)) : Nm w v n := Kd.V_mono (Kd.V_map h (fun _ hf => hf)) (fun _ _ => trivial)
theorem Nm.of_R {w : World} {b : Nat} {ok : Nat → Prop} {v : Value} {n : Nat} (h : Kd.R (Kd.int .u32) 35 w b ok v (Num.wordsN n)) : Nm w v n := Nm.of_V (Kd.R_V (base' := 0) h)
theorem Nm.nil (w : World) : Nm w (.slice none 0 0) 0 := by
 unfold Nm
 rw [Num.wordsN_zero]
 exact Kd.V_nil _ _ _ _ _
theorem Ev.at {α : Type} {f : Nat → Option α} {v : α} (h : Ev f v) : ∃ k, f k = some v := by
 obtain ⟨K, hK⟩ := h
 exact ⟨K, hK K (Nat.le_refl _)⟩
theorem fitV_of {n : Nat} (h : Fit n) : fitV n = (Num.wordsN n, 0) := by
 unfold fitV
 rw [if_neg (by unfold Fit at h; omega)]
theorem fitsW_of {n : Nat} (h : Fit n) : fitsW (Num.wordsN n) = (Num.wordsN n, 0) := by
 unfold fitsW
 rw [Num.wordsN_normed, if_neg (by unfold Fit at h; omega)]
section
variable {w : World} {v u : Value} {a b : Nat}
theorem n_Parse (s : ByteArray) (hd : Num.digs s.data.toList = true) (h0 : s.data.toList ≠ []) (hs : s.data.toList.length ≤ 5000) (hf : Fit (Num.decL 0 s.data.toList)) :
  Calls Tryz.prog 72 #[.string s] w fun e w' => ∃ v, e = .returned (.tuple #[v, .int .i64 0]) ∧ Nm w' v (Num.decL 0 s.data.toList) ∧ Below w.heap.size w w' := by
 have hp : parseW s.data.toList = (Num.wordsN (Num.decL 0 s.data.toList), 0) := by
  unfold parseW
  rw [hd, if_neg (by simp), if_neg h0, if_neg (by omega), fitsW_of hf]
 have he := ev_parse s (by show s.data.size ≤ _; rw [← Array.length_toList]; omega)
 rw [hp] at he
 obtain ⟨k, hk⟩ := Ev.at he
 refine (nat_Parse.calls k s _ _ w hk).mono ?_
 rintro e w' ⟨v, rfl, h1, h2⟩
 exact ⟨v, rfl, Nm.of_V h1, h2⟩
theorem n_Mul (h0 : Nm w v a) (h1 : Nm w u b) (fa : Fit a) (fb : Fit b) (hf : Fit (a * b)) :
  Calls Tryz.prog 121 #[v, u] w fun e w' => ∃ r, e = .returned (.tuple #[r, .int .i64 0]) ∧ Nm w' r (a * b) ∧ Below w.heap.size w w' := by
 obtain ⟨A, c, rfl, _, _, g0⟩ := h0.open
 obtain ⟨A1, c1, rfl, _, _, g1⟩ := h1.open
 have he := ev_mul (Num.wordsN a) (Num.wordsN b) (Num.wordsN_ok a) (Num.wordsN_ok b) (by unfold Fit at fa; omega) (by unfold Fit at fb; omega)
 unfold mulW at he
 rw [Num.wordsN_val, Num.wordsN_val, if_neg (by unfold Fit at fa fb; omega), fitV_of hf] at he
 obtain ⟨k, hk⟩ := Ev.at he
 refine (nat_Mul.calls k _ _ _ _ _ _ _ _ _ _ w g0 g1 hk).mono ?_
 rintro e w' ⟨v, rfl, h1, h2⟩
 exact ⟨v, rfl, Nm.of_V h1, h2⟩
theorem n_Shl (h0 : Nm w v a) (fa : Fit a) (m : Nat) (hm : m ≤ 64000) (hf : Fit (a * 2 ^ m)) :
  Calls Tryz.prog 117 #[v, .int .i64 (m : Int)] w fun e w' => ∃ r, e = .returned (.tuple #[r, .int .i64 0]) ∧ Nm w' r (a * 2 ^ m) ∧ Below w.heap.size w w' := by
 obtain ⟨A, c, rfl, _, _, g0⟩ := h0.open
 have he := shift_left (Num.wordsN a) (Num.wordsN_ok a) (by rw [Num.wordsN_normed]; exact fa) (by unfold Fit at fa; omega) m hm
 rw [Num.wordsN_val, fitV_of hf] at he
 obtain ⟨k, hk⟩ := Ev.at he
 refine (nat_Shift.calls k _ _ _ _ _ _ _ w g0 hk).mono ?_
 rintro e w' ⟨v, rfl, h1, h2⟩
 exact ⟨v, rfl, Nm.of_V h1, h2⟩
theorem n_Shr (h0 : Nm w v a) (fa : Fit a) (m : Nat) (hm : 0 < m) (hm2 : m ≤ 64000) :
  Calls Tryz.prog 117 #[v, .int .i64 (-(m : Int))] w fun e w' => ∃ r, e = .returned (.tuple #[r, .int .i64 0]) ∧ Nm w' r (a / 2 ^ m) ∧ Below w.heap.size w w' := by
 obtain ⟨A, c, rfl, _, _, g0⟩ := h0.open
 have he := shift_right (Num.wordsN a) (Num.wordsN_ok a) (by rw [Num.wordsN_normed]; exact fa) (by unfold Fit at fa; omega) m hm (by omega)
 rw [Num.wordsN_val] at he
 obtain ⟨k, hk⟩ := Ev.at he
 refine (nat_Shift.calls k _ _ _ _ _ _ _ w g0 hk).mono ?_
 rintro e w' ⟨v, rfl, h1, h2⟩
 exact ⟨v, rfl, Nm.of_V h1, h2⟩
theorem n_Add (h0 : Nm w v a) (h1 : Nm w u b) (fa : Fit a) (fb : Fit b) :
  Calls Tryz.prog 77 #[v, u] w fun e w' => ∃ r, e = .returned r ∧ Nm w' r (a + b) ∧ Below w.heap.size w w' := by
 obtain ⟨A, c, rfl, l0, g0, _⟩ := h0.open
 obtain ⟨A1, c1, rfl, l1, g1, _⟩ := h1.open
 have he := ev_add (Num.wordsN a) (Num.wordsN b) (Num.wordsN_ok a) (Num.wordsN_ok b) (by unfold Fit at fa; omega) (by unfold Fit at fb; omega)
 rw [Num.wordsN_val, Num.wordsN_val] at he
 obtain ⟨k, hk⟩ := Ev.at he
 refine (nat_Add.calls k _ _ _ _ _ _ _ w g0 l0 g1 l1 hk).mono ?_
 rintro e w' ⟨v, rfl, h1, h2⟩
 exact ⟨v, rfl, Nm.of_R h1, h2⟩
theorem n_Norm {A : Option Addr} {c : Nat} {l : List Int} (hr : Kd.C (Kd.int .u32) w A l.length l) (hc : l.length ≤ c) (ok : Num.okW l) (hl : l.length ≤ 100000) :
  Calls Tryz.prog 85 #[.slice A l.length c] w fun e w' => ∃ r, e = .returned r ∧ Nm w' r (Num.valN l) ∧ Below w.heap.size w w' := by
 have he := ev_norm l (by omega)
 rw [Num.trim_words ok] at he
 obtain ⟨k, hk⟩ := Ev.at he
 refine (nat_Norm.calls k _ _ _ _ w hr hc hk).mono ?_
 rintro e w' ⟨v, rfl, h1, h2⟩
 exact ⟨v, rfl, Nm.of_R h1, h2⟩
theorem n_NormN (h0 : Nm w v a) (fa : Fit a) :
  Calls Tryz.prog 85 #[v] w fun e w' => ∃ r, e = .returned r ∧ Nm w' r a ∧ Below w.heap.size w w' := by
 obtain ⟨A, c, rfl, l0, g0, _⟩ := h0.open
 refine (n_Norm g0 l0 (Num.wordsN_ok a) (by unfold Fit at fa; omega)).mono ?_
 rintro e w' ⟨r, rfl, h1, h2⟩
 rw [Num.wordsN_val] at h1
 exact ⟨r, rfl, h1, h2⟩
theorem n_Compare (h0 : Nm w v a) (h1 : Nm w u b) (fa : Fit a) (fb : Fit b) :
  Calls Tryz.prog 94 #[v, u] w fun e w' => e = .returned (.int .i64 (Num.cmpN a b)) ∧ Below w.heap.size w w' := by
 obtain ⟨A, c, rfl, l0, g0, _⟩ := h0.open
 obtain ⟨A1, c1, rfl, l1, g1, _⟩ := h1.open
 have he := ev_cmp (Num.wordsN a) (Num.wordsN b) (Num.wordsN_ok a) (Num.wordsN_ok b) (by unfold Fit at fa; omega) (by unfold Fit at fb; omega)
 rw [Num.wordsN_val, Num.wordsN_val] at he
 obtain ⟨k, hk⟩ := Ev.at he
 exact nat_Compare.calls k _ _ _ _ _ _ _ w g0 l0 g1 l1 hk
theorem n_Bits (h0 : Nm w v a) (fa : Fit a) :
  Calls Tryz.prog 38 #[v] w fun e w' => e = .returned (.int .i64 (Num.bitsN a : Nat)) ∧ Below w.heap.size w w' := by
 obtain ⟨A, c, rfl, l0, g0, _⟩ := h0.open
 have he := ev_bits (Num.wordsN a) (Num.wordsN_ok a) (by unfold Fit at fa; omega)
 rw [Num.wordsN_val] at he
 obtain ⟨k, hk⟩ := Ev.at he
 exact nat_Bits.calls k _ _ _ _ w g0 l0 hk
theorem n_Divide (h0 : Nm w v a) (h1 : Nm w u b) (fa : Fit a) (fb : Fit b) (hb : b ≠ 0) :
  Calls Tryz.prog 75 #[v, u] w fun e w' => ∃ q r, e = .returned (.tuple #[q, r, .int .i64 0]) ∧ Nm w' q (a / b) ∧ Nm w' r (a % b) ∧ Below w.heap.size w w' := by
 obtain ⟨A, c, rfl, _, _, g0⟩ := h0.open
 obtain ⟨A1, c1, rfl, _, _, g1⟩ := h1.open
 have he := ev_div (Num.wordsN a) (Num.wordsN b) (Num.wordsN_ok a) (Num.wordsN_ok b) (by unfold Fit at fa; omega) (by unfold Fit at fb; omega)
 unfold divW at he
 rw [Num.wordsN_val, Num.wordsN_val, if_neg (by unfold Fit at fa fb; omega), if_neg hb] at he
 obtain ⟨k, hk⟩ := Ev.at he
 refine (nat_Divide.calls k _ _ _ _ _ _ _ _ _ _ _ w g0 g1 hk).mono ?_
 rintro e w' ⟨q, r, rfl, h1, h2, h3⟩
 exact ⟨q, r, rfl, Nm.of_V h1, Nm.of_V h2, h3⟩
theorem n_Text (h0 : Nm w v a) (fa : Fit a) :
  Calls Tryz.prog 95 #[v] w fun e w' => e = .returned (.string ⟨(Num.textN a).toArray⟩) ∧ Below w.heap.size w w' := by
 obtain ⟨A, c, rfl, l0, g0, _⟩ := h0.open
 have he := text_f (Num.wordsN_ok a) (by unfold Fit at fa; omega)
 rw [Num.wordsN_val] at he
 exact nat_Text.calls _ _ _ _ w g0 l0 he
end
end Go.Proofs.YtdoeigngpemcgaaGreatDoor.Dec
namespace Go.Proofs.YtdoeigngpemcgaaGreatDoor.Dec
open Go.RowKit Go.Proofs.YtdoeigngpemcgaaGreatDoor.Pure YtdoeigngpemcgaaGreatDoorW.PrintWords YtdoeigngpemcgaaGreatDoorW.PrintLast YtdoeigngpemcgaaGreatDoorW.PrintMore
def anyW (l : List Int) (k : Nat) : Bool := (l.take k).any (fun x => x != 0)
theorem anyW_succ (l : List Int) (k : Nat) (h : k < l.length) : anyW l (k + 1) = (anyW l k || (rd l (k : Int) != 0)) := by
 unfold anyW
 rw [List.take_succ_eq_append_getElem h, List.any_append, List.any_cons, List.any_nil, Bool.or_false]
 congr 1
 unfold rd
 rw [Int.toNat_natCast]
 simp [List.getD, h]
theorem any_val {l : List Int} (ok : Num.okW l) : (l.any (fun x => x != 0)) = decide (Num.valN l ≠ 0) := by
 induction l with
 | nil => rfl
 | cons a t ih =>
  have h := Num.okW_cons.1 ok
  rw [List.any_cons, ih h.2, Bool.eq_iff_iff, Bool.or_eq_true, bne_iff_ne, decide_eq_true_iff, decide_eq_true_iff]
  show _ ↔ a.toNat + 4294967296 * Num.valN t ≠ 0
  omega
theorem lost_eq {l : List Int} (ok : Num.okW l) {n k r : Nat} (hk : n / 32 = k) (hr : n % 32 = r) (h : k < l.length) :
  decide (Num.valN l % 2 ^ n ≠ 0) = (anyW l k || decide ((rd l (k : Int)).toNat % 2 ^ r ≠ 0)) := by
 have e1 : rd l (k : Int) = l[k] := by
  unfold rd
  rw [Int.toNat_natCast]
  simp [List.getD, h]
 have ht : Num.okW (l.take k) := fun x hx => ok x (List.mem_of_mem_take hx)
 have hlt := Num.valN_lt ht
 rw [List.length_take, Nat.min_eq_left (by omega)] at hlt
 have hsplit : Num.valN l = Num.valN (l.take k) + 4294967296 ^ k * (l[k].toNat + 4294967296 * Num.valN (l.drop (k + 1))) := by
  have e := Num.valN_append (l.take k) (l.drop k)
  rw [List.take_append_drop, List.length_take, Nat.min_eq_left (by omega), List.drop_eq_getElem_cons h] at e
  exact e
 have hp : (2 : Nat) ^ n = 4294967296 ^ k * 2 ^ r := by
  rw [show (4294967296 : Nat) = 2 ^ 32 from rfl, ← Nat.pow_mul, ← Nat.pow_add]
  congr 1
  omega
 have hr32 : r < 32 := by omega
 have hd : (2 : Nat) ^ r ∣ 4294967296 := ⟨2 ^ (32 - r), by rw [← Nat.pow_add, show r + (32 - r) = 32 by omega]⟩
 have hz : Num.valN l % 2 ^ n = 4294967296 ^ k * (l[k].toNat % 2 ^ r) + Num.valN (l.take k) := by
  obtain ⟨q, hq⟩ := hd
  rw [hp, Nat.mod_mul, hsplit, Nat.add_mul_mod_self_left, Nat.mod_eq_of_lt hlt, Nat.add_mul_div_left _ _ (Nat.pow_pos (by decide)), Nat.div_eq_of_lt hlt, Nat.zero_add, Nat.add_comm]
  congr 2
  rw [hq, Nat.mul_assoc, Nat.add_mul_mod_self_left]
 rw [e1, hz]
 unfold anyW
 rw [any_val ht, Bool.eq_iff_iff, Bool.or_eq_true, decide_eq_true_iff, decide_eq_true_iff, decide_eq_true_iff]
 have hpos : 0 < 4294967296 ^ k := Nat.pow_pos (by decide)
 constructor
 ·intro hne
  by_cases c : Num.valN (l.take k) = 0
  ·right
   intro c2
   rw [c2, c] at hne
   exact hne (by rw [Nat.mul_zero])
  ·exact .inl c
 ·rintro (c | c)
  ·omega
  ·intro hh
   have := (Nat.add_eq_zero_iff.1 hh).1
   rcases Nat.mul_eq_zero.1 this with z | z
   ·omega
   ·exact c z
theorem mask_eq {l : List Int} (ok : Num.okW l) {k r : Nat} (h : k < l.length) (hr : r < 32) :
  (bits .and .u32 (rd l (k : Int)) ((2 ^ r - 1) % 4294967296) != 0) = decide ((rd l (k : Int)).toNat % 2 ^ r ≠ 0) := by
 have e1 : rd l (k : Int) = l[k] := by
  unfold rd
  rw [Int.toNat_natCast]
  simp [List.getD, h]
 have ho := ok (l[k]) (List.getElem_mem h)
 obtain ⟨x, hx⟩ : ∃ x : Nat, l[k] = (x : Int) := ⟨l[k].toNat, by omega⟩
 rw [e1, hx, Int.toNat_natCast]
 have hle : 2 ^ r ≤ 2 ^ 31 := Nat.pow_le_pow_right (by decide) (by omega)
 have hpos := Nat.two_pow_pos r
 have h31 : (2 : Nat) ^ 31 = 2147483648 := rfl
 have hm : ((2 : Int) ^ r - 1) % 4294967296 = ((2 ^ r - 1 : Nat) : Int) := by
  have : ((2 : Int) ^ r) = ((2 ^ r : Nat) : Int) := by rw [Int.natCast_pow]; rfl
  rw [this]
  omega
 rw [hm, u32_and_nat _ _ (by omega) (by omega), Nat.and_two_pow_sub_one_eq_mod, Bool.eq_iff_iff, bne_iff_ne, decide_eq_true_iff]
 omega
end Go.Proofs.YtdoeigngpemcgaaGreatDoor.Dec
namespace Go.Proofs.YtdoeigngpemcgaaGreatDoor.Dec
open Go.RowKit Go.Flt Go.Proofs.YtdoeigngpemcgaaGreatDoor.Pure YtdoeigngpemcgaaGreatDoorW.PrintWords YtdoeigngpemcgaaGreatDoorW.PrintLast YtdoeigngpemcgaaGreatDoorW.PrintMore
attribute [local go_sem] max2_int min2_int max_two min_two max_three min_three max_four min_four
theorem four (l : List Int) (ok : Num.okW l) (hl : l.length ≤ 4) : ∃ x0 x1 x2 x3 : Nat, x0 < 4294967296 ∧ x1 < 4294967296 ∧ x2 < 4294967296 ∧ x3 < 4294967296 ∧
  splice [Value.int .u32 0, .int .u32 0, .int .u32 0, .int .u32 0] 0 (l.map (Value.int .u32)) = [.int .u32 (x0 : Int), .int .u32 (x1 : Int), .int .u32 (x2 : Int), .int .u32 (x3 : Int)] ∧ Num.valN l = x0 + 4294967296 * (x1 + 4294967296 * (x2 + 4294967296 * x3)) := by
 have key : ∀ x : Int, x ∈ l → ((x.toNat : Nat) : Int) = x ∧ x.toNat < 4294967296 := fun x hx => by
  have := ok x hx
  omega
 match l, hl, key with
 | [], _, _ => exact ⟨0, 0, 0, 0, by decide, by decide, by decide, by decide, rfl, rfl⟩
 | [a], _, key =>
  have ka := key a (by simp)
  exact ⟨a.toNat, 0, 0, 0, ka.2, by decide, by decide, by decide, by rw [ka.1]; rfl, by simp [Num.valN]⟩
 | [a, b], _, key =>
  have ka := key a (by simp)
  have kb := key b (by simp)
  exact ⟨a.toNat, b.toNat, 0, 0, ka.2, kb.2, by decide, by decide, by rw [ka.1, kb.1]; rfl, by simp [Num.valN]⟩
 | [a, b, c], _, key =>
  have ka := key a (by simp)
  have kb := key b (by simp)
  have kc := key c (by simp)
  exact ⟨a.toNat, b.toNat, c.toNat, 0, ka.2, kb.2, kc.2, by decide, by rw [ka.1, kb.1, kc.1]; rfl, by simp [Num.valN]⟩
 | [a, b, c, d], _, key =>
  have ka := key a (by simp)
  have kb := key b (by simp)
  have kc := key c (by simp)
  have kd := key d (by simp)
  exact ⟨a.toNat, b.toNat, c.toNat, d.toNat, ka.2, kb.2, kc.2, kd.2, by rw [ka.1, kb.1, kc.1, kd.1]; rfl, by simp [Num.valN]⟩
 | _ :: _ :: _ :: _ :: _ :: _, hl, _ => exact absurd hl (by simp)
theorem copy_src {w : World} {A : Option Addr} {l : List Int} (h : Kd.C (Kd.int .u32) w A l.length l) (g : Nat) : 0 < (l.map (Value.int .u32)).length → some (⟨g, 0, none⟩ : Addr) = some ⟨g, 0, none⟩ ∧ ∃ ad, A = some ad ∧ ∀ j v, (l.map (Value.int .u32))[j]? = some v → w.cell? (ad.add j) = some v := by
 intro h0
 rw [List.length_map] at h0
 refine ⟨rfl, ?_⟩
 obtain ⟨ad, hA, _⟩ := Kd.at_int h 0 (by omega) (by omega)
 refine ⟨ad, hA, fun j v hj => ?_⟩
 rw [List.getElem?_map] at hj
 obtain ⟨x, hx, rfl⟩ := Option.map_eq_some_iff.1 hj
 obtain ⟨hlt, hxe⟩ := List.getElem?_eq_some_iff.1 hx
 subst hA
 have := Kd.foot_int h (j : Int) (by omega) (by omega)
 rw [Int.toNat_natCast] at this
 rw [this]
 simp [rd, hx, hxe]
set_option maxRecDepth 100000 in
theorem copy4 {w0 w : World} {A : Option Addr} {l : List Int} {c g : Nat} {a0 a1 a2 a3 : Value} (h : Kd.C (Kd.int .u32) w A l.length l) (hl : l.length ≤ 4) (hb : Below w0.heap.size w0 w) (hg0 : w0.heap.size ≤ g)
  (hg : w.heap[g]? = some (.cells #[.int .u32 0, .int .u32 0, .int .u32 0, .int .u32 0] 130 (0, 0))) (hsp : splice [Value.int .u32 0, .int .u32 0, .int .u32 0, .int .u32 0] 0 (l.map (Value.int .u32)) = [a0, a1, a2, a3]) :
  ∃ w', (Builtin.copy_ #[58, 58] 3 #[.slice (some ⟨g, 0, none⟩) 4 4, .slice A l.length c]).run Tryz.prog w = .ok (.int .i64 (l.length : Int)) w' ∧ w'.heap[g]? = some (.cells #[a0, a1, a2, a3] 130 (0, 0)) ∧ Below w0.heap.size w0 w' := by
 have hsz : (Tryz.prog.info? 35).map (·.size) = some 1 := by kernel_rfl
 by_cases h0 : l.length = 0
 ·obtain rfl : l = [] := List.eq_nil_of_length_eq_zero h0
  refine ⟨w, run_copy_none (P := Tryz.prog) w 58 58 3 35 _ _ 4 4 0 c Tryz.underlying58 hsz rfl, ?_, hb⟩
  have : [Value.int .u32 0, .int .u32 0, .int .u32 0, .int .u32 0] = [a0, a1, a2, a3] := hsp
  injection this with e0 this
  injection this with e1 this
  injection this with e2 this
  injection this with e3 this
  subst e0; subst e1; subst e2; subst e3
  exact hg
 ·obtain ⟨_, ad, hA, hsrc⟩ := copy_src h g (by rw [List.length_map]; omega)
  subst hA
  have hrun := run_copy_row (P := Tryz.prog) w 58 58 3 35 g 0 4 4 ad l.length c #[.int .u32 0, .int .u32 0, .int .u32 0, .int .u32 0] 130 (l.map (Value.int .u32)) Tryz.underlying58 hsz hg (by rw [List.length_map]; exact (Nat.min_eq_left hl).symm) hsrc (by rw [List.length_map]; show 0 + _ ≤ 4; omega) (fun v hv => by
   obtain ⟨x, _, rfl⟩ := List.mem_map.1 hv
   rfl)
  refine ⟨_, by rw [List.length_map] at hrun; exact hrun, ?_, below_setRow hb hg0 _⟩
  have e : (Array.toList #[Value.int .u32 0, .int .u32 0, .int .u32 0, .int .u32 0]).take 0 ++ l.map (Value.int .u32) ++ (Array.toList #[Value.int .u32 0, .int .u32 0, .int .u32 0, .int .u32 0]).drop (0 + l.length) = [a0, a1, a2, a3] := by rw [← hsp]; unfold splice; rw [List.append_assoc, List.length_map]
  rw [e]
  exact setRow_heap w g _ _ 130 _ hg
set_option maxRecDepth 100000 in
theorem s_make_short (w : World) (neg : Bool) {v : Value} (m : Nat) (hv : Nm w v m) (hm : m < 2 ^ 128) (e : Int) (he : -100000 ≤ e) (he2 : e ≤ 100000) :
  Calls Tryz.prog 71 #[.bool neg, v, .int .i64 e] w fun x w' => x = .returned (.int .u64 ((sg neg (packN m e 0) : Nat) : Int)) ∧ Below w.heap.size w w' := by
 have hf : Fit m := fit_lt hm (by omega)
 have hl4 : (Num.wordsN m).length ≤ 4 := wordsN_len (by rw [show (4294967296 : Nat) ^ 4 = 2 ^ 128 from rfl]; exact hm)
 have HN := md_ (n_NormN hv hf)
 have HB := md_ (Below.refl w.heap.size w)
 have HBits := md_ (fun (w : World) (v : Value) (h : Nm w v m) => n_Bits h hf)
 have hb := bits_le_128 hm
 obtain ⟨b, hbn⟩ : ∃ b : Int, ((Num.bitsN m : Nat) : Int) = b := ⟨_, rfl⟩
 rw [hbn] at HBits
 have hw1 : IntKind.i64.wrap (b - 128) = b - 128 := i64w_id (by omega) (by omega)
 obtain ⟨n, hn⟩ : ∃ z : Int, b - 128 = z := ⟨_, rfl⟩
 have hw2 : IntKind.i64.wrap (b - 128) = n := by rw [hw1]; exact hn
 have c1 := decide_eq_false (show ¬ (0 : Int) < n by omega)
 have hc : clamp e = e := by unfold clamp; omega
 have m1 : (if e < -100000 then -100000 else e) = e := if_neg (by omega)
 have m2 : (if 100000 < e then 100000 else e) = e := if_neg (by omega)
 have m3 : max e (-100000) = e := by omega
 have m4 : min e 100000 = e := by omega
 obtain ⟨L, hL⟩ : ∃ z : Nat, (Num.wordsN m).length = z := ⟨_, rfl⟩
 rw [hL] at hl4
 have c2 := decide_eq_false (show ¬ (1000 : Int) < (L : Int) by omega)
 have hL' := md_ hL
 have hl4' := md_ hl4
 have hc' := md_ hc
 clear hbn hw1 hn hb hc hL hl4 he he2 hv
 go_enter Tryz.func71, Tryz.ntmps71
 go_upto_region 2 with (first | (go_at_call 85; refine HN.out.mono ?_; rintro e w' ⟨r, rfl, hr, hb⟩; have n0_ := md_ (below_step HB.out hb); have hr' := md_ hr; clear HB hb hr; have HB := n0_; clear n0_))
 obtain ⟨A, c, hA, hAc, hC, hV⟩ := hr'.out.open
 rw [hL'.out] at hA hAc hC hV
 subst hA
 have hC' := md_ hC
 have hAc' := md_ hAc
 clear hV hC hAc
 go_upto_region 17 with (first | (go_at_call 38; refine (HBits.out _ _ hr'.out).mono ?_; rintro e w2 ⟨rfl, hb⟩; have n0_ := md_ (below_step HB.out hb); have n1_ := md_ (Kd.C_below hC'.out hb); clear HB hC' hb hr'; have HB := n0_; have hC' := n1_; clear n0_ n1_) | ((with_reducible refine gate_dst (N := 10) rfl ?_); refine box_event ?hg (N := 10) ?hd (cs := #[.int .u32 0, .int .u32 0, .int .u32 0, .int .u32 0]) (t := 130) ?hr ?_; (case hd => rfl); (case hg => rfl); (case hr => first | (go_simp; done) | (go_simp; rfl)); intro g hg w12 hbox hb; have n0_ := md_ (below_step HB.out hb); have n1_ := md_ hbox; have n2_ := md_ (Kd.C_below hC'.out hb); have n3_ := md_ ((by rw [hg]; exact (below_size HB.out)) : w.heap.size ≤ g); clear HB hC'; have HB := n0_; have BK := n1_; have hC' := n2_; have GE := n3_; clear n0_ n1_ n2_ n3_; clear hb hbox hg))
 have hsz : (Tryz.prog.info? 35).map (·.size) = some 1 := by kernel_rfl
 obtain ⟨x0, x1, x2, x3, l0, l1, l2, l3, hsp, hval⟩ := four (Num.wordsN m) (Num.wordsN_ok m) (by rw [hL'.out]; exact hl4'.out)
 rw [Num.wordsN_val] at hval
 obtain ⟨w13, hrun, hg13, hb13⟩ := copy4 (c := c) (w0 := w) (by rw [hL'.out]; exact hC'.out) (by rw [hL'.out]; exact hl4'.out) HB.out GE.out BK.out hsp
 rw [hL'.out] at hrun
 have BK' := md_ hg13
 have HB' := md_ hb13
 have l0' := md_ l0
 have l1' := md_ l1
 have l2' := md_ l2
 have l3' := md_ l3
 have hval' := md_ hval
 clear hg13 hb13 HB BK hC' hsp hsz l0 l1 l2 l3 hval
 go_upto_region 18 with (go_at_call 9999; skip)
 have z0 : w13.cell? ⟨g, 0, none⟩ = some (.int .u32 (x0 : Int)) := (blk_cell BK'.out 0).trans rfl
 have z1 : w13.cell? ⟨g, 1, none⟩ = some (.int .u32 (x1 : Int)) := (blk_cell BK'.out 1).trans rfl
 have z2 : w13.cell? ⟨g, 2, none⟩ = some (.int .u32 (x2 : Int)) := (blk_cell BK'.out 2).trans rfl
 have z3 : w13.cell? ⟨g, 3, none⟩ = some (.int .u32 (x3 : Int)) := (blk_cell BK'.out 3).trans rfl
 have cv : ∀ x : Nat, x < 4294967296 → IntKind.u64.wrap (x : Int) = (x : Int) ∧ IntKind.u64.wrap ((x : Int) * 4294967296) = (x : Int) * 4294967296 := fun x hx => by rw [IntKind.wrap_u64, IntKind.wrap_u64]; omega
 have jn : ∀ x y : Nat, x < 4294967296 → y < 4294967296 → bits .or .u64 ((x : Int) * 4294967296) (y : Int) = ((x * 4294967296 + y : Nat) : Int) := fun x y hx hy => by
  rw [show (x : Int) * 4294967296 = ((x * 4294967296 : Nat) : Int) by omega, u64_or_nat _ _ (by omega) (by omega), nat_join 32 _ _ (Nat.mul_mod_left _ _) hy]
 obtain ⟨v0, u0⟩ := cv x0 l0'.out
 obtain ⟨v1, u1⟩ := cv x1 l1'.out
 obtain ⟨v2, u2⟩ := cv x2 l2'.out
 obtain ⟨v3, u3⟩ := cv x3 l3'.out
 have b0 := l0'.out
 have b1 := l1'.out
 have b2 := l2'.out
 have b3 := l3'.out
 have bv := hval'.out
 have j1 := jn x3 x2 b3 b2
 have j0 := jn x1 x0 b1 b0
 have hhi : ((x3 * 4294967296 + x2 : Nat) : Int) = hiW m := by unfold hiW; congr 1; omega
 have hlo : ((x1 * 4294967296 + x0 : Nat) : Int) = loW m := by unfold loW; congr 1; omega
 rw [hhi] at j1
 rw [hlo] at j0
 have HP : Aside0 (∀ w, Calls Tryz.prog 118 #[.bool neg, .int .u64 (hiW m), .int .u64 (loW m), .int .i64 e, .bool false] w fun x w' => x = .returned (.int .u64 ((sg neg (packN m e 0) : Nat) : Int)) ∧ Below w.heap.size w w') := ⟨fun w => by have := s_pack w neg m hm e false; rw [hc'.out] at this; exact this⟩
 clear b0 b1 b2 b3 bv hhi hlo cv jn
 go_wp2_with (go_at_call 118; (with_reducible refine (HP.out _).mono ?_); rintro e w' ⟨rfl, hb⟩; have n0_ := md_ (below_step HB'.out hb); clear HB' hb; have HB' := n0_; clear n0_)
 go_ret
 exact ⟨rfl, by repeat (first | exact HB'.out | apply pw_below_drewN)⟩
set_option maxRecDepth 100000 in
theorem s_make_long (w : World) (neg : Bool) {v : Value} (m : Nat) (hv : Nm w v m) (n : Nat) (hn : Num.bitsN m = n + 128) (hn0 : 0 < n) (hn1 : n ≤ 31000) (e : Int) (he : -100000 ≤ e) (he2 : e + n ≤ 100000) :
  Calls Tryz.prog 71 #[.bool neg, v, .int .i64 e] w fun x w' => x = .returned (.int .u64 ((sg neg (packN (m / 2 ^ n) (e + n) (if m % 2 ^ n = 0 then 0 else 1)) : Nat) : Int)) ∧ Below w.heap.size w w' := by
 obtain ⟨res, hres⟩ : ∃ z : Int, ((sg neg (packN (m / 2 ^ n) (e + n) (if m % 2 ^ n = 0 then 0 else 1)) : Nat) : Int) = z := ⟨_, rfl⟩
 rw [hres]
 have HRES := md_ hres
 clear hres
 have hlt := Num.bitsN_lt m
 have hm0 : 0 < m := by
  rcases Nat.eq_zero_or_pos m with h | h
  ·subst h; rw [Num.bitsN_zero] at hn; omega
  ·exact h
 have hle := Num.bitsN_le hm0
 have hf : Fit m := fit_lt hlt (by omega)
 have hL1 : (Num.wordsN m).length ≤ 1000 := len_lt hlt (by omega)
 have hL2 : n / 32 + 4 ≤ (Num.wordsN m).length := by
  have := wordsN_len_ge (v := m) (n := n / 32 + 3) (by
   refine Nat.le_trans ?_ hle
   rw [show (4294967296 : Nat) = 2 ^ 32 from rfl, ← Nat.pow_mul]
   exact Nat.pow_le_pow_right (by decide) (by omega))
  omega
 have F3 := md_ (And.intro hlt hle)
 clear hlt hle
 have HN := md_ (n_NormN hv hf)
 have HB := md_ (Below.refl w.heap.size w)
 have HBits := md_ (fun (w : World) (v : Value) (h : Nm w v m) => n_Bits h hf)
 have HS := md_ (fun (w : World) (v : Value) (h : Nm w v m) => n_Shr h hf n hn0 (by omega))
 obtain ⟨b, hbn⟩ : ∃ b : Int, ((Num.bitsN m : Nat) : Int) = b := ⟨_, rfl⟩
 rw [hbn] at HBits
 obtain ⟨nn, hnn⟩ : ∃ z : Int, (n : Int) = z := ⟨_, rfl⟩
 have hw1 : IntKind.i64.wrap (b - 128) = nn := by rw [i64w_id (by omega) (by omega)]; omega
 have c1 := decide_eq_true (show (0 : Int) < nn by omega)
 have m1 : (if e < -100000 then -100000 else e) = e := if_neg (by omega)
 have m2 : (if 100000 < e then 100000 else e) = e := if_neg (by omega)
 have m3 : max e (-100000) = e := by omega
 have m4 : min e 100000 = e := by omega
 obtain ⟨L, hL⟩ : ∃ z : Nat, (Num.wordsN m).length = z := ⟨_, rfl⟩
 rw [hL] at hL1 hL2
 have c2 := decide_eq_false (show ¬ (1000 : Int) < (L : Int) by omega)
 obtain ⟨k, hk⟩ : ∃ z : Nat, n / 32 = z := ⟨_, rfl⟩
 have hq : Int.tdiv nn 32 = (k : Int) := by rw [← hnn, ← hk]; rfl
 have hqA := md_ hq
 clear hq
 have hqB := md_ (show wrap64 (k : Int) = (k : Int) from i64_id (by omega) (by omega))
 have hL' := md_ hL
 have hL1' := md_ hL1
 have hL2' := md_ (show k + 4 ≤ L by omega)
 have F0 := md_ (And.intro hn (And.intro hn0 (And.intro hn1 (And.intro he he2))))
 have F1 := md_ hnn
 have F2 := md_ hk
 clear hbn hn hn0 hn1 hL hL1 hL2 he he2 hv hnn hk hm0 hf
 go_enter Tryz.func71, Tryz.ntmps71
 go_upto_region 2 with (first | (go_at_call 85; refine HN.out.mono ?_; rintro e w' ⟨r, rfl, hr, hb⟩; have n0_ := md_ (below_step HB.out hb); have hr' := md_ hr; clear HB hb hr; have HB := n0_; clear n0_))
 obtain ⟨A, c, hA, hAc, hC, hV⟩ := hr'.out.open
 rw [hL'.out] at hA hAc hC hV
 subst hA
 have hC' := md_ hC
 have hAc' := md_ hAc
 clear hV hC hAc
 go_upto_region 8 with (go_at_call 38; refine (HBits.out _ _ hr'.out).mono ?_; rintro e w2 ⟨rfl, hb⟩; have n0_ := md_ (below_step HB.out hb); have n1_ := md_ (Kd.C_below hC'.out hb); have n2_ := md_ (hr'.out.below hb); clear HB hC' hb hr'; have HB := n0_; have hC' := n1_; have hr' := n2_; clear n0_ n1_ n2_)
 obtain ⟨ad, rfl, -⟩ := Kd.at_int hC'.out 0 (by omega) (by have := hL2'.out; omega)
 have ck0 : (0 : Int) ≤ (k : Int) := by omega
 have ck1 : (k : Int) ≤ (c : Int) := by have := hL2'.out; have := hAc'.out; omega
 have ck2 : k ≤ c := by omega
 have hq := hqA.out
 have hqw := hqB.out
 go_upto_region 9 with (go_at_call 9999; skip)
 clear hq hqw
 have hLk := md_ (show k < L by have := hL2'.out; omega)
 have n0_ := md_ hr'.out
 clear hr'
 have hr' := n0_
 clear n0_
 go_loopg [7, 29] k (fun kq v7 v29 wr => ∃ (i : Nat), v29 = .int .i64 i ∧ v7 = .bool (anyW (Num.wordsN m) i) ∧ Aside0 (i + kq = k) ∧ Aside0 (Kd.C (Kd.int .u32) wr (some ad) L (Num.wordsN m)) ∧ Aside0 (Below w.heap.size w wr) ∧ Aside0 (Nm wr (.slice (some ad) L c) m))
 case atStart => exact ⟨0, rfl, rfl, ⟨by omega⟩, hC', HB, hr'⟩
 case round =>
  clear HB hC' hr'
  obtain ⟨i, rfl, rfl, HQ, hC', HB, hr'⟩ := hrel
  by_cases hlt : i < k
  ·obtain ⟨j, rfl⟩ : ∃ j, gk = j + 1 := ⟨gk - 1, by have := HQ.out; omega⟩
   have hiL : i < L := by have := hLk.out; omega
   have HQ' := md_ (show i + 1 + j = k by have := HQ.out; omega)
   have hcell := Kd.foot_int hC'.out (i : Int) (by omega) (by omega)
   rw [Int.toNat_natCast] at hcell
   have hs := anyW_succ (Num.wordsN m) i (by rw [hL'.out]; exact hiL)
   obtain ⟨x, hx⟩ : ∃ x, rd (Num.wordsN m) (i : Int) = x := ⟨_, rfl⟩
   rw [hx] at hcell hs
   have HS' := md_ hs
   have q1 : (i : Int) < (k : Int) := by omega
   have q2 : (0 : Int) ≤ (i : Int) := by omega
   have q3 : (i : Int) < (L : Int) := by omega
   have q4 : wrap64 ((i : Int) + 1) = ((i + 1 : Nat) : Int) := by have := hL1'.out; rw [i64_id (by omega) (by omega)]; omega
   have q5 : IntKind.i64.wrap ((i : Int) + 1) = ((i + 1 : Nat) : Int) := (i64_w _).trans q4
   clear hs hx
   cases hy : anyW (Num.wordsN m) i with
   | true =>
    go_wp2
    go_roundg j
    case measure => omega
    case rel => exact ⟨i + 1, by first | rfl | (rw [q5]) | (rw [q4]), by rw [HS'.out, hy]; rfl, HQ', hC', HB, hr'⟩
   | false =>
    go_wp2
    go_roundg j
    case measure => omega
    case rel => exact ⟨i + 1, by first | rfl | (rw [q5]) | (rw [q4]), by rw [HS'.out, hy]; rfl, HQ', hC', HB, hr'⟩
  ·obtain rfl : gk = 0 := by have := HQ.out; omega
   obtain rfl : k = i := by have := HQ.out; omega
   have q1 : ¬ (k : Int) < (k : Int) := by omega
   go_upto_region 13 with (go_at_call 9999; skip)
   clear q1
   have hcell := Kd.foot_int hC'.out (k : Int) (by omega) (by have := hL2'.out; omega)
   rw [Int.toNat_natCast] at hcell
   have ok := Num.wordsN_ok m
   have q1 : (0 : Int) ≤ (k : Int) := by omega
   have q2 : (k : Int) < (L : Int) := by have := hL2'.out; omega
   obtain ⟨r, hrr⟩ : ∃ z : Nat, n % 32 = z := ⟨_, rfl⟩
   have hr0 : (0 : Int) ≤ (r : Int) := by omega
   have hkL := md_ (show k < L by have := hL2'.out; omega)
   have hr32 := md_ (show r < 32 by omega)
   have hmod : Int.tmod nn 32 = (r : Int) := by rw [← F1.out, ← hrr]; rfl
   have hq := hqA.out
   have hqw := hqB.out
   clear ok
   have hMA := md_ (show m / 2 ^ n < 2 ^ 128 by
    obtain ⟨f1, _⟩ := F3.out
    obtain ⟨g1, _⟩ := F0.out
    rw [Nat.div_lt_iff_lt_mul (Nat.two_pow_pos n), ← Nat.pow_add, Nat.add_comm, ← g1]
    exact f1)
   have hlost := lost_eq (Num.wordsN_ok m) F2.out hrr (by rw [hL'.out]; exact hkL.out)
   rw [Num.wordsN_val] at hlost
   have hmask := mask_eq (Num.wordsN_ok m) (k := k) (r := r) (by rw [hL'.out]; exact hkL.out) hr32.out
   obtain ⟨lb, hlb⟩ : ∃ z : Bool, decide (m % 2 ^ n ≠ 0) = z := ⟨_, rfl⟩
   rw [hlb] at hlost
   obtain ⟨mm, hmm⟩ : ∃ z : Int, -nn = z := ⟨_, rfl⟩
   have HS2 := md_ HS.out
   rw [F1.out, hmm] at HS2
   have wn : IntKind.i64.wrap (-nn) = mm := by rw [hmm]; clear hq hqw hmod; obtain ⟨_, _, g3, _⟩ := F0.out; have := F1.out; rw [i64w_id (by omega) (by omega)]
   obtain ⟨en, hen⟩ : ∃ z : Int, e + nn = z := ⟨_, rfl⟩
   have we : IntKind.i64.wrap (e + nn) = en := by clear hq hqw hmod wn; obtain ⟨_, g2, g3, g4, g5⟩ := F0.out; have := F1.out; rw [i64w_id (by omega) (by omega)]; exact hen
   have HLB := md_ hlb
   have HEN := md_ hen
   clear hlb hen hmm
   cases hy : anyW (Num.wordsN m) k with
   | true =>
    rw [hy] at hlost
    obtain rfl : lb = true := hlost
    clear hmask
    go_quiet (go_at_call 9999)
    go_upto_region 17 with (first | (go_at_call 117; refine (HS2.out _ _ (Kd.V_drewN hr'.out _)).mono ?_; rintro e w2 ⟨r2, rfl, hr2, hb⟩; have n0_ := md_ (below_step (pw_below_drewN HB.out _) hb); have n1_ := md_ hr2; clear HB hC' hb hr' hr2; have HB := n0_; have hr' := n1_; clear n0_ n1_) | ((with_reducible refine gate_dst (N := 10) rfl ?_); refine box_event ?hg (N := 10) ?hd (cs := #[.int .u32 0, .int .u32 0, .int .u32 0, .int .u32 0]) (t := 130) ?hr ?_; (case hd => rfl); (case hg => rfl); (case hr => first | (go_simp; done) | (go_simp; rfl)); intro g hg w12 hbox hb; have n0_ := md_ (below_step HB.out hb); have n1_ := md_ hbox; have n2_ := md_ (hr'.out.below hb); have n3_ := md_ ((by rw [hg]; exact (below_size HB.out)) : w.heap.size ≤ g); clear HB hr'; have HB := n0_; have BK := n1_; have hr' := n2_; have GE := n3_; clear n0_ n1_ n2_ n3_; clear hb hbox hg))
    clear hq hqw hmod hqA hqB wn we m1 m2 m3 m4 hw1
    obtain ⟨Ax, cx, hAx, hAcx, hCx, -⟩ := hr'.out.open
    subst hAx
    have hM := hMA.out
    have hl4 : (Num.wordsN (m / 2 ^ n)).length ≤ 4 := wordsN_len (by rw [show (4294967296 : Nat) ^ 4 = 2 ^ 128 from rfl]; exact hM)
    obtain ⟨x0, x1, x2, x3, l0, l1, l2, l3, hsp, hval⟩ := four (Num.wordsN (m / 2 ^ n)) (Num.wordsN_ok _) hl4
    rw [Num.wordsN_val] at hval
    obtain ⟨w13, hrun, hg13, hb13⟩ := copy4 (c := cx) (w0 := w) hCx hl4 HB.out GE.out BK.out hsp
    have BK' := md_ hg13
    have HB' := md_ hb13
    have cv : ∀ x : Nat, x < 4294967296 → IntKind.u64.wrap (x : Int) = (x : Int) ∧ IntKind.u64.wrap ((x : Int) * 4294967296) = (x : Int) * 4294967296 := fun x hx => by rw [IntKind.wrap_u64, IntKind.wrap_u64]; omega
    have jn : ∀ x y : Nat, x < 4294967296 → y < 4294967296 → bits .or .u64 ((x : Int) * 4294967296) (y : Int) = ((x * 4294967296 + y : Nat) : Int) := fun x y hx hy => by
     rw [show (x : Int) * 4294967296 = ((x * 4294967296 : Nat) : Int) by omega, u64_or_nat _ _ (by omega) (by omega), nat_join 32 _ _ (Nat.mul_mod_left _ _) hy]
    obtain ⟨v0, u0⟩ := cv x0 l0
    obtain ⟨v1, u1⟩ := cv x1 l1
    obtain ⟨v2, u2⟩ := cv x2 l2
    obtain ⟨v3, u3⟩ := cv x3 l3
    have j1 := jn x3 x2 l3 l2
    have j0 := jn x1 x0 l1 l0
    obtain ⟨M, hMM⟩ : ∃ z : Nat, m / 2 ^ n = z := ⟨_, rfl⟩
    rw [hMM] at hval hM
    have hhi : ((x3 * 4294967296 + x2 : Nat) : Int) = hiW M := by unfold hiW; congr 1; clear cv jn; omega
    have hlo : ((x1 * 4294967296 + x0 : Nat) : Int) = loW M := by unfold loW; congr 1; clear cv jn; omega
    rw [hhi] at j1
    rw [hlo] at j0
    have hcl : clamp en = en := by
     obtain ⟨_, g2, g3, g4, g5⟩ := F0.out
     have g6 := F1.out
     have g7 := HEN.out
     unfold clamp
     clear v0 v1 v2 v3 u0 u1 u2 u3 j0 j1 cv jn
     omega
    have hif : (if m % 2 ^ n = 0 then 0 else 1) = (if true then 1 else 0 : Nat) := by
     have := HLB.out
     rw [if_neg (of_decide_eq_true this), if_pos rfl]
    have HP : Aside0 (∀ w, Calls Tryz.prog 118 #[.bool neg, .int .u64 (hiW M), .int .u64 (loW M), .int .i64 en, .bool true] w fun x w' => x = .returned (.int .u64 res) ∧ Below w.heap.size w w') := ⟨fun w => by
     have := s_pack w neg M hM en true
     rw [hcl] at this
     rw [← HRES.out, hif, F1.out, HEN.out, hMM]
     exact this⟩
    have hLx := md_ hl4
    clear hhi hlo cv jn hcl hif hl4 hval hM l0 l1 l2 l3 hMM hsp hg13 hb13 hCx hAcx
    go_upto_region 18 with (go_at_call 9999; skip)
    have z0 : w13.cell? ⟨g, 0, none⟩ = some (.int .u32 (x0 : Int)) := (blk_cell BK'.out 0).trans rfl
    have z1 : w13.cell? ⟨g, 1, none⟩ = some (.int .u32 (x1 : Int)) := (blk_cell BK'.out 1).trans rfl
    have z2 : w13.cell? ⟨g, 2, none⟩ = some (.int .u32 (x2 : Int)) := (blk_cell BK'.out 2).trans rfl
    have z3 : w13.cell? ⟨g, 3, none⟩ = some (.int .u32 (x3 : Int)) := (blk_cell BK'.out 3).trans rfl
    go_wp2_with (go_at_call 118; (with_reducible refine (HP.out _).mono ?_); rintro e w' ⟨rfl, hb⟩; have n0_ := md_ (below_step HB'.out hb); clear HB' hb; have HB' := n0_; clear n0_)
    go_ret
    exact ⟨rfl, by repeat (first | exact HB'.out | apply pw_below_drewN)⟩
   | false =>
    rw [hy] at hlost
    rw [show (false || decide ((rd (Num.wordsN m) (k : Int)).toNat % 2 ^ r ≠ 0)) = decide ((rd (Num.wordsN m) (k : Int)).toNat % 2 ^ r ≠ 0) from rfl, ← hmask] at hlost
    replace hlost := hlost.symm
    clear hmask
    go_quiet (go_at_call 9999)
    go_upto_region 17 with (first | (go_at_call 117; refine (HS2.out _ _ (Kd.V_drewN hr'.out _)).mono ?_; rintro e w2 ⟨r2, rfl, hr2, hb⟩; have n0_ := md_ (below_step (pw_below_drewN HB.out _) hb); have n1_ := md_ hr2; clear HB hC' hb hr' hr2; have HB := n0_; have hr' := n1_; clear n0_ n1_) | ((with_reducible refine gate_dst (N := 10) rfl ?_); refine box_event ?hg (N := 10) ?hd (cs := #[.int .u32 0, .int .u32 0, .int .u32 0, .int .u32 0]) (t := 130) ?hr ?_; (case hd => rfl); (case hg => rfl); (case hr => first | (go_simp; done) | (go_simp; rfl)); intro g hg w12 hbox hb; have n0_ := md_ (below_step HB.out hb); have n1_ := md_ hbox; have n2_ := md_ (hr'.out.below hb); have n3_ := md_ ((by rw [hg]; exact (below_size HB.out)) : w.heap.size ≤ g); clear HB hr'; have HB := n0_; have BK := n1_; have hr' := n2_; have GE := n3_; clear n0_ n1_ n2_ n3_; clear hb hbox hg))
    clear hq hqw hmod hqA hqB wn we m1 m2 m3 m4 hw1
    obtain ⟨Ax, cx, hAx, hAcx, hCx, -⟩ := hr'.out.open
    subst hAx
    have hM := hMA.out
    have hl4 : (Num.wordsN (m / 2 ^ n)).length ≤ 4 := wordsN_len (by rw [show (4294967296 : Nat) ^ 4 = 2 ^ 128 from rfl]; exact hM)
    obtain ⟨x0, x1, x2, x3, l0, l1, l2, l3, hsp, hval⟩ := four (Num.wordsN (m / 2 ^ n)) (Num.wordsN_ok _) hl4
    rw [Num.wordsN_val] at hval
    obtain ⟨w13, hrun, hg13, hb13⟩ := copy4 (c := cx) (w0 := w) hCx hl4 HB.out GE.out BK.out hsp
    have BK' := md_ hg13
    have HB' := md_ hb13
    have cv : ∀ x : Nat, x < 4294967296 → IntKind.u64.wrap (x : Int) = (x : Int) ∧ IntKind.u64.wrap ((x : Int) * 4294967296) = (x : Int) * 4294967296 := fun x hx => by rw [IntKind.wrap_u64, IntKind.wrap_u64]; omega
    have jn : ∀ x y : Nat, x < 4294967296 → y < 4294967296 → bits .or .u64 ((x : Int) * 4294967296) (y : Int) = ((x * 4294967296 + y : Nat) : Int) := fun x y hx hy => by
     rw [show (x : Int) * 4294967296 = ((x * 4294967296 : Nat) : Int) by omega, u64_or_nat _ _ (by omega) (by omega), nat_join 32 _ _ (Nat.mul_mod_left _ _) hy]
    obtain ⟨v0, u0⟩ := cv x0 l0
    obtain ⟨v1, u1⟩ := cv x1 l1
    obtain ⟨v2, u2⟩ := cv x2 l2
    obtain ⟨v3, u3⟩ := cv x3 l3
    have j1 := jn x3 x2 l3 l2
    have j0 := jn x1 x0 l1 l0
    obtain ⟨M, hMM⟩ : ∃ z : Nat, m / 2 ^ n = z := ⟨_, rfl⟩
    rw [hMM] at hval hM
    have hhi : ((x3 * 4294967296 + x2 : Nat) : Int) = hiW M := by unfold hiW; congr 1; clear cv jn; omega
    have hlo : ((x1 * 4294967296 + x0 : Nat) : Int) = loW M := by unfold loW; congr 1; clear cv jn; omega
    rw [hhi] at j1
    rw [hlo] at j0
    have hcl : clamp en = en := by
     obtain ⟨_, g2, g3, g4, g5⟩ := F0.out
     have g6 := F1.out
     have g7 := HEN.out
     unfold clamp
     clear v0 v1 v2 v3 u0 u1 u2 u3 j0 j1 cv jn
     omega
    have hif : (if m % 2 ^ n = 0 then 0 else 1) = (if lb then 1 else 0 : Nat) := by
     have := HLB.out
     cases lb with
     | true => rw [if_neg (of_decide_eq_true this), if_pos rfl]
     | false => rw [if_pos (Decidable.not_not.1 (of_decide_eq_false this)), if_neg (by decide)]
    have HP : Aside0 (∀ w, Calls Tryz.prog 118 #[.bool neg, .int .u64 (hiW M), .int .u64 (loW M), .int .i64 en, .bool lb] w fun x w' => x = .returned (.int .u64 res) ∧ Below w.heap.size w w') := ⟨fun w => by
     have := s_pack w neg M hM en lb
     rw [hcl] at this
     rw [← HRES.out, hif, F1.out, HEN.out, hMM]
     exact this⟩
    have hLx := md_ hl4
    clear hhi hlo cv jn hcl hif hl4 hval hM l0 l1 l2 l3 hMM hsp hg13 hb13 hCx hAcx
    go_upto_region 18 with (go_at_call 9999; skip)
    have z0 : w13.cell? ⟨g, 0, none⟩ = some (.int .u32 (x0 : Int)) := (blk_cell BK'.out 0).trans rfl
    have z1 : w13.cell? ⟨g, 1, none⟩ = some (.int .u32 (x1 : Int)) := (blk_cell BK'.out 1).trans rfl
    have z2 : w13.cell? ⟨g, 2, none⟩ = some (.int .u32 (x2 : Int)) := (blk_cell BK'.out 2).trans rfl
    have z3 : w13.cell? ⟨g, 3, none⟩ = some (.int .u32 (x3 : Int)) := (blk_cell BK'.out 3).trans rfl
    go_wp2_with (go_at_call 118; (with_reducible refine (HP.out _).mono ?_); rintro e w' ⟨rfl, hb⟩; have n0_ := md_ (below_step HB'.out hb); clear HB' hb; have HB' := n0_; clear n0_)
    go_ret
    exact ⟨rfl, by repeat (first | exact HB'.out | apply pw_below_drewN)⟩
end Go.Proofs.YtdoeigngpemcgaaGreatDoor.Dec
namespace Go.Proofs.YtdoeigngpemcgaaGreatDoor.Dec
open Go.RowKit Go.Flt Go.Proofs.YtdoeigngpemcgaaGreatDoor.Pure YtdoeigngpemcgaaGreatDoorW.PrintWords YtdoeigngpemcgaaGreatDoorW.PrintLast YtdoeigngpemcgaaGreatDoorW.PrintMore
theorem packN_mk (m : Nat) (e : Int) : packN m e 0 = mkN m e := by
 rcases Nat.eq_zero_or_pos m with h | h
 ·subst h
  unfold packN mkN
  rw [if_pos rfl, if_pos rfl]
 ·rw [packN_eq h (by decide) (fun h => absurd h (by decide)), Nat.add_zero, mkN_double]
theorem packN_cut {m n : Nat} (e : Int) (hn : Num.bitsN m = n + 128) (hn0 : 0 < n) : packN (m / 2 ^ n) (e + n) (if m % 2 ^ n = 0 then 0 else 1) = mkN m e := by
 have hb : Num.bitsN (m / 2 ^ n) = 128 := bits_div (n := 127) (by omega)
 have hpos : 0 < m / 2 ^ n := by
  rcases Nat.eq_zero_or_pos (m / 2 ^ n) with h | h
  ·rw [h, Num.bitsN_zero] at hb
   omega
  ·exact h
 rw [packN_eq hpos (by split <;> decide) (fun _ => by unfold expo; omega)]
 exact make_cut e (by omega)
theorem s_Make (w : World) (neg : Bool) {v : Value} (m : Nat) (hv : Nm w v m) (hb : Num.bitsN m ≤ 31000) (e : Int) (he : -100000 ≤ e) (he2 : e ≤ 100000) (he3 : e + Num.bitsN m ≤ 100128) :
  Calls Tryz.prog 71 #[.bool neg, v, .int .i64 e] w fun x w' => x = .returned (.int .u64 ((sg neg (mkN m e) : Nat) : Int)) ∧ Below w.heap.size w w' := by
 by_cases h : Num.bitsN m ≤ 128
 ·have hm : m < 2 ^ 128 := Nat.lt_of_lt_of_le (Num.bitsN_lt m) (Nat.pow_le_pow_right (by decide) h)
  rw [← packN_mk]
  exact s_make_short w neg m hv hm e he he2
 ·obtain ⟨n, hn⟩ : ∃ n, Num.bitsN m = n + 128 := ⟨Num.bitsN m - 128, by omega⟩
  rw [← packN_cut e hn (by omega)]
  exact s_make_long w neg m hv n hn (by omega) (by omega) e he (by omega)
end Go.Proofs.YtdoeigngpemcgaaGreatDoor.Dec
namespace Go.Proofs.YtdoeigngpemcgaaGreatDoor.Dec
open Go.RowKit YtdoeigngpemcgaaGreatDoorW.PrintWords YtdoeigngpemcgaaGreatDoorW.PrintLast YtdoeigngpemcgaaGreatDoorW.PrintMore
attribute [local go_sem] max2_int min2_int max_two min_two max_three min_three max_four min_four
theorem d_times (w : World) {v u : Value} {a b : Nat} (h0 : Nm w v a) (h1 : Nm w u b) (fa : Fit a) (fb : Fit b) (hf : Fit (a * b)) :
  Calls Tryz.prog 73 #[v, u] w fun e w' => ∃ r, e = .returned r ∧ Nm w' r (a * b) ∧ Below w.heap.size w w' := by
 have HM := md_ (n_Mul h0 h1 fa fb hf)
 clear h0 h1
 go_enter Tryz.func73, Tryz.ntmps73
 go_wp2_with (go_at_call 121; refine HM.out.mono ?_; rintro e w' ⟨r, rfl, hr, hb⟩; have hr' := md_ hr; have hb' := md_ hb; clear hr hb)
 go_ret
 exact ⟨_, rfl, hr'.out, hb'.out⟩
theorem d_shifted (w : World) {v : Value} {a : Nat} (h0 : Nm w v a) (fa : Fit a) (m : Nat) (hm : m ≤ 64000) (hf : Fit (a * 2 ^ m)) :
  Calls Tryz.prog 76 #[v, .int .i64 (m : Int)] w fun e w' => ∃ r, e = .returned r ∧ Nm w' r (a * 2 ^ m) ∧ Below w.heap.size w w' := by
 have HM := md_ (n_Shl h0 fa m hm hf)
 obtain ⟨mm, hmm⟩ : ∃ z : Int, (m : Int) = z := ⟨_, rfl⟩
 rw [hmm] at HM ⊢
 clear h0
 go_enter Tryz.func76, Tryz.ntmps76
 go_wp2_with (go_at_call 117; refine HM.out.mono ?_; rintro e w' ⟨r, rfl, hr, hb⟩; have hr' := md_ hr; have hb' := md_ hb; clear hr hb)
 go_ret
 exact ⟨_, rfl, hr'.out, hb'.out⟩
theorem d_ten (w : World) (n : Int) (hn : n ≤ 1500) :
  Calls Tryz.prog 74 #[.int .i64 n] w fun e w' => ∃ r, e = .returned r ∧ Nm w' r (10 ^ n.toNat) ∧ Below w.heap.size w w' := by
 obtain ⟨c, hc⟩ : ∃ c : Int, max n 0 = c := ⟨_, rfl⟩
 have hc' : c = (n.toNat : Int) := by omega
 have hcb : (if n < 0 then 0 else n) = c := by split <;> omega
 have hrep : ∀ k, Lib.repeatL [48] k = List.replicate k 48 := fun k => by
  induction k with
  | zero => rfl
  | succ k ih => rw [Lib.repeatL, ih, List.replicate_succ]; rfl
 have hdec : ∀ k, Num.decL 0 (49 :: List.replicate k 48) = 10 ^ k := fun k => by
  have h : ∀ k a, Num.decL a (List.replicate k 48) = a * 10 ^ k := fun k => by
   induction k with
   | zero => intro a; exact (Nat.mul_one a).symm
   | succ k ih =>
    intro a
    have h1 : Num.decL a (List.replicate (k + 1) 48) = Num.decL (a * 10 + 0) (List.replicate k 48) := rfl
    rw [h1, ih, Nat.pow_succ, Nat.add_zero, Nat.mul_assoc, Nat.mul_comm (10 ^ k) 10]
  have h1 : Num.decL 0 (49 :: List.replicate k 48) = Num.decL 1 (List.replicate k 48) := rfl
  rw [h1, h]
  exact Nat.one_mul _
 have hfit : Fit (10 ^ n.toNat) := by
  refine fit_lt (b := 4 * n.toNat + 1) ?_ (by omega)
  rw [Nat.pow_succ, Nat.pow_mul]
  have := Nat.pow_le_pow_left (show 10 ≤ 2 ^ 4 by decide) n.toNat
  have h1 := Nat.two_pow_pos (4 * n.toNat)
  rw [Nat.pow_mul] at h1
  omega
 have HP : Aside0 (∀ w, Calls Tryz.prog 72 #[.string ⟨(49 :: List.replicate n.toNat 48).toArray⟩] w fun e w' => ∃ v, e = .returned (.tuple #[v, .int .i64 0]) ∧ Nm w' v (10 ^ n.toNat) ∧ Below w.heap.size w w') := ⟨fun w => by
  have := n_Parse (w := w) ⟨(49 :: List.replicate n.toNat 48).toArray⟩ (by unfold Num.digs; rw [List.all_eq_true]; intro x hx; rcases List.mem_cons.1 hx with rfl | hx; decide; rw [List.eq_of_mem_replicate hx]; decide) (by simp) (by simp; omega) (by show Fit (Num.decL 0 (49 :: List.replicate n.toNat 48)); rw [hdec]; exact hfit)
  show Calls Tryz.prog 72 _ w _
  rw [show Num.decL 0 (⟨(49 :: List.replicate n.toNat 48).toArray⟩ : ByteArray).data.toList = 10 ^ n.toNat from hdec _] at this
  exact this⟩
 have HR : Aside0 (∀ w, Calls Tryz.prog 37 #[.string ⟨#[48]⟩, .int .i64 c] w fun e w' => e = .returned (.string ⟨(List.replicate n.toNat 48).toArray⟩) ∧ Below w.heap.size w w') := ⟨fun w => by
  rw [hc']
  rw [← hrep]; exact Tryz.strings_Repeat ⟨#[48]⟩ n.toNat w (by omega) (by show 1 * _ ≤ _; omega)⟩
 have hcat : (⟨#[49]⟩ : ByteArray) ++ ⟨(List.replicate n.toNat 48).toArray⟩ = ⟨(49 :: List.replicate n.toNat 48).toArray⟩ := by
  apply ByteArray.ext
  simp
 obtain ⟨zz, hz⟩ : ∃ z : ByteArray, (⟨(List.replicate n.toNat 48).toArray⟩ : ByteArray) = z := ⟨_, rfl⟩
 obtain ⟨yy, hy⟩ : ∃ z : ByteArray, (⟨(49 :: List.replicate n.toNat 48).toArray⟩ : ByteArray) = z := ⟨_, rfl⟩
 rw [hz, hy] at hcat
 rw [hz] at HR
 rw [hy] at HP
 have HB := md_ (Below.refl w.heap.size w)
 have hl : ¬ 9223372036854775807 < 1 + zz.size := by
  rw [← hz]
  show ¬ 9223372036854775807 < 1 + (List.replicate n.toNat (48 : UInt8)).toArray.size
  rw [List.size_toArray, List.length_replicate]
  omega
 clear hz hy hrep hdec hfit hc'
 go_enter Tryz.func74, Tryz.ntmps74
 go_wp2_with (first | (go_at_call 37; (with_reducible refine (HR.out _).mono ?_); rintro e w' ⟨rfl, hb⟩; replace HB := bt_ HB hb; clear hb) | (go_at_call 72; (with_reducible refine (HP.out _).mono ?_); rintro e w' ⟨r, rfl, hr, hb⟩; have n0_ := md_ (below_step HB.out hb); have hr' := md_ hr; clear HB hb hr; have HB := n0_; clear n0_))
 go_ret
 exact ⟨_, rfl, hr'.out, HB.out⟩
end Go.Proofs.YtdoeigngpemcgaaGreatDoor.Dec
namespace Go.Flt
open Go.Num
theorem mkN_pow (m k : Nat) (e : Int) : mkN (m * 2 ^ k) (e - k) = mkN m e := by
 induction k with
 | zero => rw [Nat.pow_zero, Nat.mul_one]; congr 1; omega
 | succ k ih =>
  rw [Nat.pow_succ, ← Nat.mul_assoc, Nat.mul_comm _ 2, show e - ((k + 1 : Nat) : Int) = e - k - 1 by omega, mkN_double]
  exact ih
theorem fl_one {p : Nat} (hp : 0 < p) : fl p 1 = mkN p 0 := by
 have h := fl_at (p := p) (q := 1) hp (by decide) (bitsN 1 + 53) (Nat.le_refl _)
 rw [← h]
 have : sq (p * 2 ^ (bitsN 1 + 53)) 1 = 2 * (p * 2 ^ (bitsN 1 + 53)) := by
  unfold sq
  rw [Nat.div_one, Nat.mod_one, if_pos rfl, Nat.add_zero]
 rw [this, mkN_double]
 have := mkN_pow p (bitsN 1 + 53) 0
 rw [Int.zero_sub] at this
 exact this
def flt (m : Nat) (e : Int) : Nat := if m = 0 then 0 else if 0 ≤ e then fl (m * 10 ^ e.toNat) 1 else fl m (10 ^ (-e).toNat)
theorem quo_dec {m d k : Nat} (hm : 0 < m) (hd : 0 < d) (hk : bitsN d + 53 ≤ k) : mkN (2 * (m * 2 ^ k / d) + (if m * 2 ^ k % d = 0 then 0 else 1)) (-(k : Int) - 1) = fl m d := by
 have h := fl_at hm hd k hk
 unfold sq at h
 exact h
end Go.Flt
namespace Go.Proofs.YtdoeigngpemcgaaGreatDoor.Dec
open Go.RowKit Go.Flt Go.Proofs.YtdoeigngpemcgaaGreatDoor.Pure YtdoeigngpemcgaaGreatDoorW.PrintWords YtdoeigngpemcgaaGreatDoorW.PrintLast YtdoeigngpemcgaaGreatDoorW.PrintMore
theorem d_float_zero (w : World) (neg : Bool) (s t : ByteArray) (ht : t = ⟨(Lib.trimLeftB s.data.toList 48).toArray⟩) (e : Int) (h : t = ⟨#[]⟩ ∨ e < -900) :
  Calls Tryz.prog 31 #[.bool neg, .string s, .int .i64 e] w fun x w' => x = .returned (.int .u64 ((sg neg 0 : Nat) : Int)) ∧ Below w.heap.size w w' := by
 have HT : Aside0 (∀ w, Calls Tryz.prog 69 #[.string s, .string ⟨#[48]⟩] w fun x w' => x = .returned (.string t) ∧ w' = w) := ⟨fun w => by rw [ht]; exact Tryz.strings_TrimLeft_one s 48 (by decide) w⟩
 have HM : Aside0 (∀ w, Calls Tryz.prog 71 #[.bool neg, .slice none 0 0, .int .i64 0] w fun x w' => x = .returned (.int .u64 ((sg neg 0 : Nat) : Int)) ∧ Below w.heap.size w w') := ⟨fun w => s_Make w neg 0 (Nm.nil w) (by rw [Num.bitsN_zero]; omega) 0 (by omega) (by omega) (by rw [Num.bitsN_zero]; omega)⟩
 have HB := md_ (Below.refl w.heap.size w)
 clear ht
 by_cases h0 : t = ⟨#[]⟩
 ·subst h0
  clear h
  go_enter Tryz.func31, Tryz.ntmps31
  go_wp2_with (first | (go_at_call 69; (with_reducible refine (HT.out _).mono ?_); rintro e w' ⟨rfl, rfl⟩) | (go_at_call 71; (with_reducible refine (HM.out _).mono ?_); rintro e w' ⟨rfl, hb⟩; replace HB := bt_ HB hb; clear hb))
  go_ret
  exact ⟨rfl, by repeat (first | exact HB.out | apply pw_below_drewN)⟩
 ·have he := h.resolve_left h0
  have c1 : decide (e < -900) = true := decide_eq_true he
  have c2 : ¬ t.toList = [] := fun h => h0 (by
   rw [Lib.toList_data] at h
   apply ByteArray.ext
   exact Array.toList_inj.1 h)
  have c3 : t.toList.isEmpty = false := by
   cases h : t.toList with
   | nil => exact absurd h c2
   | cons a b => rfl
  clear h he h0
  go_enter Tryz.func31, Tryz.ntmps31
  go_wp2_with (first | (go_at_call 69; (with_reducible refine (HT.out _).mono ?_); rintro e w' ⟨rfl, rfl⟩) | (go_at_call 71; (with_reducible refine (HM.out _).mono ?_); rintro e w' ⟨rfl, hb⟩; replace HB := bt_ HB hb; clear hb))
  go_ret
  exact ⟨rfl, by repeat (first | exact HB.out | apply pw_below_drewN)⟩
theorem words_one : Num.wordsN 1 = [1] := by
 rw [Num.wordsN_pos (by decide), Num.wordsN_zero]
 rfl
theorem d_float_inf (w : World) (neg : Bool) (s t : ByteArray) (ht : t = ⟨(Lib.trimLeftB s.data.toList 48).toArray⟩) (e : Int) (h0 : t ≠ ⟨#[]⟩) (h : 400 < e) :
  Calls Tryz.prog 31 #[.bool neg, .string s, .int .i64 e] w fun x w' => x = .returned (.int .u64 ((sg neg 9218868437227405312 : Nat) : Int)) ∧ Below w.heap.size w w' := by
 have HT : Aside0 (∀ w, Calls Tryz.prog 69 #[.string s, .string ⟨#[48]⟩] w fun x w' => x = .returned (.string t) ∧ w' = w) := ⟨fun w => by rw [ht]; exact Tryz.strings_TrimLeft_one s 48 (by decide) w⟩
 have hb1 : Num.bitsN 1 = 1 := by decide
 have hbig : mkN 1 100000 = 9218868437227405312 := mkN_big (by decide) (by unfold expo; rw [hb1]; omega)
 have HM : Aside0 (∀ w v, Nm w v 1 → Calls Tryz.prog 71 #[.bool neg, v, .int .i64 100000] w fun x w' => x = .returned (.int .u64 ((sg neg 9218868437227405312 : Nat) : Int)) ∧ Below w.heap.size w w') := ⟨fun w v hv => by
  rw [← hbig]
  exact s_Make w neg 1 hv (by rw [hb1]; omega) 100000 (by omega) (by omega) (by rw [hb1]; omega)⟩
 have HB := md_ (Below.refl w.heap.size w)
 have c2 : ¬ t.toList = [] := fun h => h0 (by
  rw [Lib.toList_data] at h
  apply ByteArray.ext
  exact Array.toList_inj.1 h)
 have c3 : t.toList.isEmpty = false := by
  cases h : t.toList with
  | nil => exact absurd h c2
  | cons a b => rfl
 have c4 : decide (e < -900) = false := decide_eq_false (by omega)
 have c5 : decide (400 < e) = true := decide_eq_true h
 clear ht h h0 hb1 hbig
 go_enter Tryz.func31, Tryz.ntmps31
 go_wp2_with (first | (go_at_call 69; (with_reducible refine (HT.out _).mono ?_); rintro e w' ⟨rfl, rfl⟩) | ((with_reducible refine gate_dst (N := 29) rfl ?_); refine Kd.R_lit (Kd.int .u32) _ 35 ?hg (N := 29) ?hd (xs := ([1] : List Int)) (inner := [.int .u32 1]) (ok := fun _ => True) (okp := fun _ => True) ?hr ?hp (fun _ hk => hk) trivial (Below.refl _ _) (Nat.le_refl _) (by simp) ?_; (case hd => rfl); (case hg => rfl); (case hr => first | (go_simp; done) | (go_simp; rfl)); (case hp => exact (Reps.one (show Kd.M (Kd.int .u32) _ _ _ 1 [.int .u32 1] from rfl) (Reps.none _ _))); intro v1 w1 ho hb hg_ hnew_; clear hg_ hnew_; have hv := md_ (show Nm w1 v1 1 from Nm.of_R (by rw [words_one]; exact ho)); replace HB := bt_ HB hb; clear ho hb) | (go_at_call 71; (refine (HM.out _ _ hv.out).mono ?_); rintro e w' ⟨rfl, hb⟩; replace HB := bt_ HB hb; clear hb))
 go_ret
 exact ⟨rfl, by repeat (first | exact HB.out | apply pw_below_drewN)⟩
theorem ten_lt (k : Nat) : 10 ^ k < 2 ^ (4 * k + 1) := by
 rw [Nat.pow_succ, Nat.pow_mul]
 have := Nat.pow_le_pow_left (show 10 ≤ 2 ^ 4 by decide) k
 have h1 := Nat.two_pow_pos (4 * k)
 rw [Nat.pow_mul] at h1
 omega
theorem dec_lt {l : List UInt8} {k A : Nat} (hd : Num.digs l = true) (hl : l.length ≤ k) (hA : 4 * k + 1 ≤ A) : Num.decL 0 l < 2 ^ A :=
 Nat.lt_of_lt_of_le (Nat.lt_trans (Nat.lt_of_lt_of_le (Num.decL_lt l (Num.digs_mem hd)) (Nat.pow_le_pow_right (by decide) hl)) (ten_lt k)) (Nat.pow_le_pow_right (by decide) hA)
theorem bits_lt {m b : Nat} (h : m < 2 ^ b) : Num.bitsN m ≤ b := by
 rcases Nat.eq_zero_or_pos m with z | z
 ·subst z; rw [Num.bitsN_zero]; omega
 ·rcases Nat.lt_or_ge b (Num.bitsN m) with q | q
  ·exfalso
   have h1 := Num.bitsN_le z
   have h3 : 2 ^ b ≤ 2 ^ (Num.bitsN m - 1) := Nat.pow_le_pow_right (by decide) (by omega)
   omega
  ·exact q
theorem d_float_pos (w : World) (neg : Bool) (s t : ByteArray) (ht : t = ⟨(Lib.trimLeftB s.data.toList 48).toArray⟩) (e : Int) (h0 : t ≠ ⟨#[]⟩) (hd : Num.digs t.data.toList = true) (hl : t.data.toList.length ≤ 400) (he0 : 0 ≤ e) (he : e ≤ 400) :
  Calls Tryz.prog 31 #[.bool neg, .string s, .int .i64 e] w fun x w' => x = .returned (.int .u64 ((sg neg (mkN (Num.decL 0 t.data.toList * 10 ^ e.toNat) 0) : Nat) : Int)) ∧ Below w.heap.size w w' := by
 have HT : Aside0 (∀ w, Calls Tryz.prog 69 #[.string s, .string ⟨#[48]⟩] w fun x w' => x = .returned (.string t) ∧ w' = w) := ⟨fun w => by rw [ht]; exact Tryz.strings_TrimLeft_one s 48 (by decide) w⟩
 obtain ⟨A, hA⟩ : ∃ A, A = 1601 := ⟨_, rfl⟩
 have hm := dec_lt (A := A) hd hl (by omega)
 have hten := ten_lt e.toNat
 have c2 : ¬ t.toList = [] := fun h => h0 (by
  rw [Lib.toList_data] at h
  apply ByteArray.ext
  exact Array.toList_inj.1 h)
 have hne : t.data.toList ≠ [] := by rw [← Lib.toList_data]; exact c2
 obtain ⟨m, hmm⟩ : ∃ m, Num.decL 0 t.data.toList = m := ⟨_, rfl⟩
 obtain ⟨p, hpp⟩ : ∃ p, 10 ^ e.toNat = p := ⟨_, rfl⟩
 have HTen := md_ (fun w => d_ten w e (by omega))
 have fm : Fit (Num.decL 0 t.data.toList) := fit_lt hm (by omega)
 have HP := md_ (fun w => n_Parse (w := w) t hd hne (by omega) fm)
 rw [hmm] at hm fm HP ⊢
 rw [hpp] at hten HTen ⊢
 have hten2 : p < 2 ^ A := Nat.lt_of_lt_of_le hten (Nat.pow_le_pow_right (by decide) (by omega))
 have fp : Fit p := fit_lt hten2 (by omega)
 have hprod : m * p < 2 ^ (A + A) := by
  rw [Nat.pow_add]
  exact Nat.mul_lt_mul'' hm hten2
 have HX := md_ (fun (w : World) (v u : Value) (h : Nm w v m) (k : Nm w u p) => d_times w h k fm fp (fit_lt hprod (by omega)))
 have hbits := bits_lt hprod
 have HM : Aside0 (∀ w v, Nm w v (m * p) → Calls Tryz.prog 71 #[.bool neg, v, .int .i64 0] w fun x w' => x = .returned (.int .u64 ((sg neg (mkN (m * p) 0) : Nat) : Int)) ∧ Below w.heap.size w w') := ⟨fun w v hv => s_Make w neg (m * p) hv (by omega) 0 (by omega) (by omega) (by omega)⟩
 have HB := md_ (Below.refl w.heap.size w)
 have c3 : t.toList.isEmpty = false := by
  cases h : t.toList with
  | nil => exact absurd h c2
  | cons a b => rfl
 have c4 : decide (e < -900) = false := decide_eq_false (by omega)
 have c5 : decide (400 < e) = false := decide_eq_false (by omega)
 have c6 : decide (0 ≤ e) = true := decide_eq_true he0
 obtain ⟨res, hres⟩ : ∃ z : Int, ((sg neg (mkN (m * p) 0) : Nat) : Int) = z := ⟨_, rfl⟩
 rw [hres] at HM ⊢
 clear ht h0 hm hten hmm hpp fm hten2 fp hprod hbits hA A hres hd hl hne he0 he
 go_enter Tryz.func31, Tryz.ntmps31
 go_wp2_with (first | (go_at_call 69; (with_reducible refine (HT.out _).mono ?_); rintro e w' ⟨rfl, rfl⟩) | (go_at_call 72; (with_reducible refine (HP.out _).mono ?_); rintro e w' ⟨r1, rfl, hr, hb⟩; have n0_ := md_ (below_step HB.out hb); have hv1 := md_ hr; clear HB hb hr; have HB := n0_; clear n0_) | (go_at_call 74; (with_reducible refine (HTen.out _).mono ?_); rintro e w' ⟨r2, rfl, hr, hb⟩; have n0_ := md_ (below_step HB.out hb); have hv2 := md_ hr; have n1_ := md_ (hv1.out.below hb); clear HB hb hr hv1; have HB := n0_; have hv1 := n1_; clear n0_ n1_) | (go_at_call 73; (refine (HX.out _ _ _ hv1.out hv2.out).mono ?_); rintro e w' ⟨r3, rfl, hr, hb⟩; have n0_ := md_ (below_step HB.out hb); have hv3 := md_ hr; clear HB hb hr; have HB := n0_; clear n0_) | (go_at_call 71; (refine (HM.out _ _ hv3.out).mono ?_); rintro e w' ⟨rfl, hb⟩; replace HB := bt_ HB hb; clear hb))
 go_ret
 exact ⟨rfl, by repeat (first | exact HB.out | apply pw_below_drewN)⟩
set_option maxRecDepth 100000 in
theorem d_float_neg (w : World) (neg : Bool) (s t : ByteArray) (ht : t = ⟨(Lib.trimLeftB s.data.toList 48).toArray⟩) (e : Int) (h0 : t ≠ ⟨#[]⟩) (hd : Num.digs t.data.toList = true) (hl : t.data.toList.length ≤ 400) (he0 : e < 0) (he : -900 ≤ e) (k : Nat) (hk : k = Num.bitsN (10 ^ (-e).toNat) + 70) :
  Calls Tryz.prog 31 #[.bool neg, .string s, .int .i64 e] w fun x w' => x = .returned (.int .u64 ((sg neg (mkN (Num.decL 0 t.data.toList * 2 ^ k / 10 ^ (-e).toNat * 2 ^ 1 + (if Num.decL 0 t.data.toList * 2 ^ k % 10 ^ (-e).toNat = 0 then 0 else 1)) (-(k : Int) - 1)) : Nat) : Int)) ∧ Below w.heap.size w w' := by
 have HT : Aside0 (∀ w, Calls Tryz.prog 69 #[.string s, .string ⟨#[48]⟩] w fun x w' => x = .returned (.string t) ∧ w' = w) := ⟨fun w => by rw [ht]; exact Tryz.strings_TrimLeft_one s 48 (by decide) w⟩
 obtain ⟨A, hA⟩ : ∃ A, A = 1601 := ⟨_, rfl⟩
 have hm := dec_lt (A := A) hd hl (by omega)
 have c2 : ¬ t.toList = [] := fun h => h0 (by
  rw [Lib.toList_data] at h
  apply ByteArray.ext
  exact Array.toList_inj.1 h)
 have hne : t.data.toList ≠ [] := by rw [← Lib.toList_data]; exact c2
 obtain ⟨ee, hee⟩ : ∃ z : Int, -e = z := ⟨_, rfl⟩
 rw [hee] at hk ⊢
 have hten := ten_lt ee.toNat
 have hpos : 0 < 10 ^ ee.toNat := Nat.pow_pos (by decide)
 obtain ⟨m, hmm⟩ : ∃ m, Num.decL 0 t.data.toList = m := ⟨_, rfl⟩
 obtain ⟨p, hpp⟩ : ∃ p, 10 ^ ee.toNat = p := ⟨_, rfl⟩
 have HTen := md_ (fun w => d_ten w ee (by omega))
 have fm : Fit (Num.decL 0 t.data.toList) := fit_lt hm (by omega)
 have HP := md_ (fun w => n_Parse (w := w) t hd hne (by omega) fm)
 rw [hmm] at hm fm HP ⊢
 rw [hpp] at hten HTen hk hpos ⊢
 obtain ⟨B, hBB⟩ : ∃ B, B = 3601 := ⟨_, rfl⟩
 have hten2 : p < 2 ^ B := Nat.lt_of_lt_of_le hten (Nat.pow_le_pow_right (by decide) (by omega))
 have fp : Fit p := fit_lt hten2 (by omega)
 have hbp := bits_lt hten2
 have hk2 : k ≤ 3671 := by omega
 obtain ⟨C, hC⟩ : ∃ C, C = 5272 := ⟨_, rfl⟩
 have hsh : m * 2 ^ k < 2 ^ C := by
  have h1 : m * 2 ^ k < 2 ^ A * 2 ^ k := Nat.mul_lt_mul_of_pos_right hm (Nat.two_pow_pos k)
  rw [← Nat.pow_add] at h1
  exact Nat.lt_of_lt_of_le h1 (Nat.pow_le_pow_right (by decide) (by omega))
 have fs : Fit (m * 2 ^ k) := fit_lt hsh (by omega)
 have HBits := md_ (fun (w : World) (v : Value) (h : Nm w v p) => n_Bits h fp)
 have HS1 := md_ (fun (w : World) (v : Value) (h : Nm w v m) => d_shifted w h fm k (by omega) fs)
 have HD := md_ (fun (w : World) (v u : Value) (h : Nm w v (m * 2 ^ k)) (g : Nm w u p) => n_Divide h g fs fp (Nat.ne_of_gt hpos))
 have hqs : m * 2 ^ k / p < 2 ^ C := Nat.lt_of_le_of_lt (Nat.div_le_self _ _) hsh
 obtain ⟨q, hqq⟩ : ∃ q, m * 2 ^ k / p = q := ⟨_, rfl⟩
 obtain ⟨rem, hrem⟩ : ∃ q, m * 2 ^ k % p = q := ⟨_, rfl⟩
 rw [hqq] at HD hqs ⊢
 rw [hrem] at HD ⊢
 have hqt : q * 2 ^ 1 + 1 < 2 ^ (C + 1) := by rw [Nat.pow_add]; omega
 have fq2 : Fit (q * 2 ^ 1) := fit_lt (Nat.lt_of_succ_lt hqt) (by omega)
 have HS2 : Aside0 (∀ w v, Nm w v q → Calls Tryz.prog 76 #[v, .int .i64 1] w fun e w' => ∃ r, e = .returned r ∧ Nm w' r (q * 2 ^ 1) ∧ Below w.heap.size w w') := ⟨fun w v h => d_shifted w h (fit_lt hqs (by omega)) 1 (by omega) fq2⟩
 have HA := md_ (fun (w : World) (v u : Value) (h : Nm w v (q * 2 ^ 1)) (g : Nm w u 1) => n_Add h g fq2 (fit_lt (b := 1) (by decide) (by omega)))
 have HB := md_ (Below.refl w.heap.size w)
 obtain ⟨b, hbn⟩ : ∃ b : Int, ((Num.bitsN p : Nat) : Int) = b := ⟨_, rfl⟩
 rw [hbn] at HBits
 obtain ⟨kk, hkk⟩ : ∃ z : Int, (k : Int) = z := ⟨_, rfl⟩
 have w1 : IntKind.i64.wrap (-e) = ee := by rw [hee, i64w_id (by omega) (by omega)]
 have w2 : IntKind.i64.wrap (b + 70) = kk := by rw [i64w_id (by omega) (by omega)]; omega
 obtain ⟨nk, hnk⟩ : ∃ z : Int, -kk = z := ⟨_, rfl⟩
 have w3 : IntKind.i64.wrap (-kk) = nk := by rw [hnk, i64w_id (by omega) (by omega)]
 obtain ⟨nk1, hnk1⟩ : ∃ z : Int, nk - 1 = z := ⟨_, rfl⟩
 have w4 : IntKind.i64.wrap (nk - 1) = nk1 := by rw [i64w_id (by omega) (by omega)]; exact hnk1
 rw [hkk] at HS1
 have hb1 := Nat.le_trans (bits_lt hqt) (show C + 1 ≤ 5273 by omega)
 have hb0 := Nat.le_trans (bits_lt (Nat.lt_of_succ_lt hqt)) (show C + 1 ≤ 5273 by omega)
 have HMk := fun (x : Nat) (hx : Num.bitsN x ≤ 5273) (w : World) (v : Value) (hv : Nm w v x) => s_Make w neg x hv (by omega) nk1 (by omega) (by omega) (by omega)
 rw [show -(k : Int) - 1 = nk1 by omega]
 obtain ⟨L, hL⟩ : ∃ z, (Num.wordsN rem).length = z := ⟨_, rfl⟩
 have c3 : t.toList.isEmpty = false := by
  cases h : t.toList with
  | nil => exact absurd h c2
  | cons a b => rfl
 have c4 : decide (e < -900) = false := decide_eq_false (by omega)
 have c5 : decide (400 < e) = false := decide_eq_false (by omega)
 have c6 : decide (0 ≤ e) = false := decide_eq_false (by omega)
 by_cases hr0 : rem = 0
 ·have hL0 : L = 0 := by rw [← hL, hr0, Num.wordsN_zero]; rfl
  subst hL0
  rw [if_pos hr0, Nat.add_zero]
  have HM := md_ (HMk _ hb0)
  obtain ⟨res, hres⟩ : ∃ z : Int, ((sg neg (mkN (q * 2 ^ 1) nk1) : Nat) : Int) = z := ⟨_, rfl⟩
  rw [hres] at HM ⊢
  have u1 : wrap64 (-e) = ee := (i64_w _).symm.trans w1
  have u2 : wrap64 (b + 70) = kk := (i64_w _).symm.trans w2
  have u3 : wrap64 (-kk) = nk := (i64_w _).symm.trans w3
  have u4 : wrap64 (nk - 1) = nk1 := (i64_w _).symm.trans w4
  clear hee HMk ht h0 hm hten hpos hmm hpp fm hten2 fp hbp hk2 hsh fs hqs hqq hrem hqt fq2 hbn hkk hnk hnk1 hb1 hb0 hr0 hres hd hl hne he0 he hk hA hBB hC A B C
  go_enter Tryz.func31, Tryz.ntmps31
  go_wp2_with (first | (go_at_call 69; (with_reducible refine (HT.out _).mono ?_); rintro e w' ⟨rfl, rfl⟩) | (go_at_call 72; (with_reducible refine (HP.out _).mono ?_); rintro e w' ⟨r1, rfl, hr, hb⟩; have n0_ := md_ (below_step HB.out hb); have hv1 := md_ hr; clear HB hb hr; have HB := n0_; clear n0_) | (go_at_call 74; (with_reducible refine (HTen.out _).mono ?_); rintro e w' ⟨r2, rfl, hr, hb⟩; have n0_ := md_ (below_step HB.out hb); have hv2 := md_ hr; have n1_ := md_ (hv1.out.below hb); clear HB hb hr hv1; have HB := n0_; have hv1 := n1_; clear n0_ n1_) | (go_at_call 38; (with_reducible refine (HBits.out _ _ hv2.out).mono ?_); rintro e w' ⟨rfl, hb⟩; replace HB := bt_ HB hb; replace hv1 := md_ (hv1.out.below hb); replace hv2 := md_ (hv2.out.below hb); clear hb) | (go_at_call 76; (with_reducible refine (HS1.out _ _ hv1.out).mono ?_); rintro e w' ⟨r3, rfl, hr, hb⟩; have n0_ := md_ (below_step HB.out hb); have hv3 := md_ hr; have n1_ := md_ (hv2.out.below hb); clear HB hb hr hv2; have HB := n0_; have hv2 := n1_; clear n0_ n1_) | (go_at_call 75; (with_reducible refine (HD.out _ _ _ hv3.out hv2.out).mono ?_); rintro e w' ⟨rq, rr, rfl, hr, hr2, hb⟩; have n0_ := md_ (below_step HB.out hb); have hq := md_ hr; obtain ⟨Ar, cr, har, -, -, -⟩ := hr2.open; rw [hL] at har; subst har; clear HB hb hr hr2; have HB := n0_; clear n0_) | (go_at_call 76; (with_reducible refine (HS2.out _ _ hq.out).mono ?_); rintro e w' ⟨r4, rfl, hr, hb⟩; have n0_ := md_ (below_step HB.out hb); have hq2 := md_ hr; clear HB hb hr; have HB := n0_; clear n0_) | (go_at_call 71; (with_reducible refine (HM.out _ _ hq2.out).mono ?_); rintro e w' ⟨rfl, hb⟩; replace HB := bt_ HB hb; clear hb))
  go_ret
  exact ⟨rfl, by repeat (first | exact HB.out | apply pw_below_drewN)⟩
 ·have hL0 : (0 : Int) < (L : Int) := by
   rw [← hL]
   rcases Nat.eq_zero_or_pos (Num.wordsN rem).length with z | z
   ·exfalso
    apply hr0
    rw [← Num.wordsN_val rem, List.eq_nil_of_length_eq_zero z]
    rfl
   ·omega
  have c7 := decide_eq_true hL0
  rw [if_neg hr0]
  have HM := md_ (HMk _ hb1)
  obtain ⟨res, hres⟩ : ∃ z : Int, ((sg neg (mkN (q * 2 ^ 1 + 1) nk1) : Nat) : Int) = z := ⟨_, rfl⟩
  rw [hres] at HM ⊢
  have u1 : wrap64 (-e) = ee := (i64_w _).symm.trans w1
  have u2 : wrap64 (b + 70) = kk := (i64_w _).symm.trans w2
  have u3 : wrap64 (-kk) = nk := (i64_w _).symm.trans w3
  have u4 : wrap64 (nk - 1) = nk1 := (i64_w _).symm.trans w4
  clear hee HMk ht h0 hm hten hpos hmm hpp fm hten2 fp hbp hk2 hsh fs hqs hqq hrem hqt fq2 hbn hkk hnk hnk1 hb1 hb0 hr0 hres hd hl hne he0 he hk hA hBB hC A B C
  go_enter Tryz.func31, Tryz.ntmps31
  go_wp2_with (first | (go_at_call 69; (with_reducible refine (HT.out _).mono ?_); rintro e w' ⟨rfl, rfl⟩) | (go_at_call 72; (with_reducible refine (HP.out _).mono ?_); rintro e w' ⟨r1, rfl, hr, hb⟩; have n0_ := md_ (below_step HB.out hb); have hv1 := md_ hr; clear HB hb hr; have HB := n0_; clear n0_) | (go_at_call 74; (with_reducible refine (HTen.out _).mono ?_); rintro e w' ⟨r2, rfl, hr, hb⟩; have n0_ := md_ (below_step HB.out hb); have hv2 := md_ hr; have n1_ := md_ (hv1.out.below hb); clear HB hb hr hv1; have HB := n0_; have hv1 := n1_; clear n0_ n1_) | (go_at_call 38; (with_reducible refine (HBits.out _ _ hv2.out).mono ?_); rintro e w' ⟨rfl, hb⟩; replace HB := bt_ HB hb; replace hv1 := md_ (hv1.out.below hb); replace hv2 := md_ (hv2.out.below hb); clear hb) | (go_at_call 76; (with_reducible refine (HS1.out _ _ hv1.out).mono ?_); rintro e w' ⟨r3, rfl, hr, hb⟩; have n0_ := md_ (below_step HB.out hb); have hv3 := md_ hr; have n1_ := md_ (hv2.out.below hb); clear HB hb hr hv2; have HB := n0_; have hv2 := n1_; clear n0_ n1_) | (go_at_call 75; (with_reducible refine (HD.out _ _ _ hv3.out hv2.out).mono ?_); rintro e w' ⟨rq, rr, rfl, hr, hr2, hb⟩; have n0_ := md_ (below_step HB.out hb); have hq := md_ hr; obtain ⟨Ar, cr, har, -, -, -⟩ := hr2.open; rw [hL] at har; subst har; clear HB hb hr hr2; have HB := n0_; clear n0_) | (go_at_call 76; (with_reducible refine (HS2.out _ _ hq.out).mono ?_); rintro e w' ⟨r4, rfl, hr, hb⟩; have n0_ := md_ (below_step HB.out hb); have hq2 := md_ hr; clear HB hb hr; have HB := n0_; clear n0_) | ((with_reducible refine gate_dst (N := 65) rfl ?_); refine Kd.R_lit (Kd.int .u32) _ 35 ?hg (N := 65) ?hd (xs := ([1] : List Int)) (inner := [.int .u32 1]) (ok := fun _ => True) (okp := fun _ => True) ?hr ?hp (fun _ hk => hk) trivial (Below.refl _ _) (Nat.le_refl _) (by simp) ?_; (case hd => rfl); (case hg => rfl); (case hr => first | (go_simp; done) | (go_simp; rfl)); (case hp => exact (Reps.one (show Kd.M (Kd.int .u32) _ _ _ 1 [.int .u32 1] from rfl) (Reps.none _ _))); intro v1 w1 ho hb hg_ hnew_; clear hg_ hnew_; have hv := md_ (show Nm w1 v1 1 from Nm.of_R (by rw [words_one]; exact ho)); replace HB := bt_ HB hb; replace hq2 := md_ (hq2.out.below hb); clear ho hb) | (go_at_call 77; (with_reducible refine (HA.out _ _ _ hq2.out hv.out).mono ?_); rintro e w' ⟨r5, rfl, hr, hb⟩; have n0_ := md_ (below_step HB.out hb); have hQ := md_ hr; clear HB hb hr; have HB := n0_; clear n0_) | (go_at_call 71; (with_reducible refine (HM.out _ _ hQ.out).mono ?_); rintro e w' ⟨rfl, hb⟩; replace HB := bt_ HB hb; clear hb))
  go_ret
  exact ⟨rfl, by repeat (first | exact HB.out | apply pw_below_drewN)⟩
end Go.Proofs.YtdoeigngpemcgaaGreatDoor.Dec
namespace Go.Flt
def lhs (m : Nat) (e k : Int) : Nat := m * 10 ^ (-k).toNat * 2 ^ e.toNat
def rhs (e k : Int) : Nat := 10 ^ k.toNat * 2 ^ (-e).toNat
def rch (m : Nat) (e k : Int) : Bool := decide (rhs e k ≤ lhs m e k)
end Go.Flt
namespace Go.Proofs.YtdoeigngpemcgaaGreatDoor.Dec
open Go.RowKit Go.Flt Go.Proofs.YtdoeigngpemcgaaGreatDoor.Pure YtdoeigngpemcgaaGreatDoorW.PrintWords YtdoeigngpemcgaaGreatDoorW.PrintLast YtdoeigngpemcgaaGreatDoorW.PrintMore
attribute [local go_sem] max2_int min2_int max_two min_two max_three min_three max_four min_four
theorem mul_lt_pow {a b i j : Nat} (h : a < 2 ^ i) (k : b < 2 ^ j) : a * b < 2 ^ (i + j) := by
 rw [Nat.pow_add]
 exact Nat.mul_lt_mul'' h k
theorem two_lt (k : Nat) : 2 ^ k < 2 ^ (k + 1) := Nat.pow_lt_pow_right (by decide) (by omega)
set_option maxRecDepth 100000 in
theorem d_reaches (w : World) {v : Value} {m : Nat} (hv : Nm w v m) (hm : m < 2 ^ 53) (e k : Int) (he : -1074 ≤ e) (he2 : e ≤ 971) (hk : -400 ≤ k) (hk2 : k ≤ 400) :
  Calls Tryz.prog 39 #[v, .int .i64 e, .int .i64 k] w fun x w' => x = .returned (.bool (rch m e k)) ∧ Below w.heap.size w w' := by
 obtain ⟨nk, hnk⟩ : ∃ z, -k = z := ⟨_, rfl⟩
 obtain ⟨ne, hne⟩ : ∃ z, -e = z := ⟨_, rfl⟩
 have T1 := md_ (fun w => d_ten w nk (by omega))
 have T2 := md_ (fun w => d_ten w k (by omega))
 have b1 := ten_lt nk.toNat
 have b2 := ten_lt k.toNat
 have c1 := two_lt e.toNat
 have c2 := two_lt ne.toNat
 have fm : Fit m := fit_lt hm (by omega)
 have d1 := mul_lt_pow hm b1
 have d2 := mul_lt_pow d1 c1
 have d3 := mul_lt_pow b2 c2
 have hL : m * 10 ^ nk.toNat * 2 ^ e.toNat = lhs m e k := by unfold lhs; rw [hnk]
 have hR : 10 ^ k.toNat * 2 ^ ne.toNat = rhs e k := by unfold rhs; rw [hne]
 have X := md_ (fun (w : World) (v u : Value) (h : Nm w v m) (g : Nm w u (10 ^ nk.toNat)) => d_times w h g fm (fit_lt b1 (by omega)) (fit_lt d1 (by omega)))
 have S1 := md_ (fun (w : World) (v : Value) (h : Nm w v (m * 10 ^ nk.toNat)) => d_shifted w h (fit_lt d1 (by omega)) e.toNat (by omega) (fit_lt d2 (by omega)))
 have S2 := md_ (fun (w : World) (v : Value) (h : Nm w v (10 ^ k.toNat)) => d_shifted w h (fit_lt b2 (by omega)) ne.toNat (by omega) (fit_lt d3 (by omega)))
 have CC := md_ (fun (w : World) (v u : Value) (h : Nm w v (m * 10 ^ nk.toNat * 2 ^ e.toNat)) (g : Nm w u (10 ^ k.toNat * 2 ^ ne.toNat)) => n_Compare h g (fit_lt d2 (by omega)) (fit_lt d3 (by omega)))
 obtain ⟨me, hme⟩ : ∃ z : Int, max e 0 = z := ⟨_, rfl⟩
 obtain ⟨mn, hmn⟩ : ∃ z : Int, max ne 0 = z := ⟨_, rfl⟩
 have hme' : ((e.toNat : Nat) : Int) = me := by omega
 have hmn' : ((ne.toNat : Nat) : Int) = mn := by omega
 have hme2 : (if e < 0 then 0 else e) = me := by rw [← hme]; split <;> omega
 have hmn2 : (if ne < 0 then 0 else ne) = mn := by rw [← hmn]; split <;> omega
 rw [hme'] at S1
 rw [hmn'] at S2
 obtain ⟨p1, hp1⟩ : ∃ z, 10 ^ nk.toNat = z := ⟨_, rfl⟩
 obtain ⟨p2, hp2⟩ : ∃ z, 10 ^ k.toNat = z := ⟨_, rfl⟩
 rw [hL, hR] at CC
 rw [hL] at S1
 rw [hR] at S2
 rw [hp1] at T1 X S1
 rw [hp2] at T2 S2
 obtain ⟨L, hLL⟩ : ∃ z, lhs m e k = z := ⟨_, rfl⟩
 obtain ⟨R, hRR⟩ : ∃ z, rhs e k = z := ⟨_, rfl⟩
 have hres : decide (0 ≤ Num.cmpN L R) = rch m e k := by
  unfold rch Num.cmpN
  rw [hLL, hRR, decide_eq_decide]
  split
  ·omega
  ·split <;> omega
 rw [hLL, hRR] at CC
 rw [hLL] at S1
 rw [hRR] at S2
 obtain ⟨res, hrr⟩ : ∃ z, rch m e k = z := ⟨_, rfl⟩
 rw [hrr] at hres ⊢
 obtain ⟨cc, hcc⟩ : ∃ z, Num.cmpN L R = z := ⟨_, rfl⟩
 rw [hcc] at hres CC
 obtain ⟨q1, hq1⟩ : ∃ z, m * p1 = z := ⟨_, rfl⟩
 rw [hq1] at X S1
 have w1 : wrap64 (-k) = nk := by rw [hnk, i64_id (by omega) (by omega)]
 have w2 : IntKind.i64.wrap (-k) = nk := (i64_w _).trans w1
 have w3 : wrap64 (-e) = ne := by rw [hne, i64_id (by omega) (by omega)]
 have w4 : IntKind.i64.wrap (-e) = ne := (i64_w _).trans w3
 have HB := md_ (Below.refl w.heap.size w)
 have hv0 := md_ hv
 clear hv hm he he2 hk hk2 hnk hne b1 b2 c1 c2 fm d1 d2 d3 hL hR hme' hmn' hp1 hp2 hLL hRR hrr hcc hq1
 go_enter Tryz.func39, Tryz.ntmps39
 go_wp2_with (first
  | (go_at_call 74; (with_reducible refine (T1.out _).mono ?_); rintro e w' ⟨r1, rfl, hr, hb⟩; have n0_ := md_ (below_step HB.out hb); have hv1 := md_ hr; have n1_ := md_ (hv0.out.below hb); clear HB hb hr hv0; have HB := n0_; have hv0 := n1_; clear n0_ n1_)
  | (go_at_call 73; (with_reducible refine (X.out _ _ _ hv0.out hv1.out).mono ?_); rintro e w' ⟨r2, rfl, hr, hb⟩; have n0_ := md_ (below_step HB.out hb); have hv2 := md_ hr; clear HB hb hr; have HB := n0_; clear n0_)
  | (go_at_call 76; (with_reducible refine (S1.out _ _ hv2.out).mono ?_); rintro e w' ⟨r3, rfl, hr, hb⟩; have n0_ := md_ (below_step HB.out hb); have hv3 := md_ hr; clear HB hb hr; have HB := n0_; clear n0_)
  | (go_at_call 74; (with_reducible refine (T2.out _).mono ?_); rintro e w' ⟨r4, rfl, hr, hb⟩; have n0_ := md_ (below_step HB.out hb); have hv4 := md_ hr; have n1_ := md_ (hv3.out.below hb); clear HB hb hr hv3; have HB := n0_; have hv3 := n1_; clear n0_ n1_)
  | (go_at_call 76; (with_reducible refine (S2.out _ _ hv4.out).mono ?_); rintro e w' ⟨r5, rfl, hr, hb⟩; have n0_ := md_ (below_step HB.out hb); have hv5 := md_ hr; have n1_ := md_ (hv3.out.below hb); clear HB hb hr hv3; have HB := n0_; have hv3 := n1_; clear n0_ n1_)
  | (go_at_call 94; (with_reducible refine (CC.out _ _ _ hv3.out hv5.out).mono ?_); rintro e w' ⟨rfl, hb⟩; replace HB := bt_ HB hb; clear hb))
 go_ret
 exact ⟨by first | rfl | rw [hres], HB.out⟩
end Go.Proofs.YtdoeigngpemcgaaGreatDoor.Dec
