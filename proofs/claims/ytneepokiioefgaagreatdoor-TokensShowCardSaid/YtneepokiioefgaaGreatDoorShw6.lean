/- Any token is shown right, and known for a jump or none: the law TokensShow answers true at every token and every name that its row admits. This is part 6 of 6: what the session's printing program wrote for the functions reached, and the session's own lemmas. -/
import Derived.Below
import Derived.BigQuiet
import Derived.Carry
import Derived.ChangeOld
import Derived.LaidOnce
import Derived.LaidSub
import Derived.Lay
import Derived.Lib.AppendIntMem
import Derived.Lib.LaidTab
import Derived.OpenShut
import Derived.ProofKit
import Derived.SevenTiedAt
import Derived.ShutString
import Derived.SizedLaws
import Derived.WalkKit
import Derived.Test.YtneepokiioefgaaGreatDoorCards
import Derived.Test.YtneepokiioefgaaGreatDoorRows
import Derived.Test.YtneepokiioefgaaGreatDoorShw2
import Derived.Test.YtneepokiioefgaaGreatDoorShw4
import Derived.Test.YtneepokiioefgaaGreatDoorShw5
import Derived.Test.YtneepokiioefgaaGreatDoorTie
set_option maxHeartbeats 32000000
set_option linter.unusedVariables false
set_option linter.unusedSimpArgs false
set_option maxHeartbeats 32000000
set_option linter.unusedVariables false
set_option linter.unusedSimpArgs false
namespace Go.Proofs.YtneepokiioefgaaGreatDoor.Dec
open Go.RowKit Go.Div PNat Go.Proofs.YtneepokiioefgaaGreatDoor.Pure YtneepokiioefgaaGreatDoorW.PrintWords YtneepokiioefgaaGreatDoorW.PrintLast YtneepokiioefgaaGreatDoorW.PrintMore
set_option maxRecDepth 100000 in
theorem r_SubO {w : World} {v u : Value} {a b : Nat} (h0 : Nm w v a) (h1 : Nm w u b) (fa : Fit a) (fb : Fit b) (hle : b ≤ a) :
  Calls Tryz.prog 133 #[v, u] w fun e w' => ∃ r, e = .returned (.tuple #[r, .int .i64 0]) ∧ Own w' w.heap.size r (a - b) ∧ Below w.heap.size w w' := by
 have HCM := md_ (r_Compare h0 h1 fa fb)
 have hcm : decide (Num.cmpN a b < 0) = false := by
  rcases Nat.eq_or_lt_of_le hle with z | z
  ·subst z; rw [cmp_eq]; rfl
  ·rw [cmp_gt z]; rfl
 have T1 := md_ (fun (w : World) (h : Nm w u b) => r_trimmed h)
 have HU := md_ h1
 have hlen2 : (Num.wordsN b).length ≤ (Num.wordsN a).length := len_le (Nat.le_refl _) hle
 obtain ⟨A, c, rfl, hlc, hC, _⟩ := h0.open
 obtain ⟨A1, cb, rfl, hlc1, hC1, _⟩ := h1.open
 obtain ⟨cm, hcmm⟩ : ∃ z, Num.cmpN a b = z := ⟨_, rfl⟩
 rw [hcmm] at HCM hcm
 obtain ⟨la, hla⟩ : ∃ l, Num.wordsN a = l := ⟨_, rfl⟩
 obtain ⟨lb, hlb⟩ : ∃ l, Num.wordsN b = l := ⟨_, rfl⟩
 have hok := Num.wordsN_ok a
 have hok1 := Num.wordsN_ok b
 have hval := Num.wordsN_val a
 have hval1 := Num.wordsN_val b
 have hlen : (Num.wordsN a).length ≤ 2000 := fa
 have hlen1 : (Num.wordsN b).length ≤ 2000 := fb
 rw [hla] at hC hok hval hlen hlen2 HCM
 rw [hlb] at hC1 hok1 hval1 hlen1 hlen2 HCM T1 HU
 rw [hla, hlb]
 obtain ⟨n, hn⟩ : ∃ n, la.length = n := ⟨_, rfl⟩
 obtain ⟨m, hm⟩ : ∃ n, lb.length = n := ⟨_, rfl⟩
 rw [hn] at hC hlen hlen2 HCM
 rw [hm] at hC1 hlen1 hlen2 HCM T1 HU
 rw [hn, hm]
 have HC := md_ hC
 have HC1 := md_ hC1
 have HOK := md_ (show Num.okW la ∧ Num.okW lb from ⟨hok, hok1⟩)
 have HN := md_ (show la.length = n ∧ lb.length = m ∧ n ≤ 2000 ∧ m ≤ n by omega)
 have HV := md_ (show Num.valN la = a ∧ Num.valN lb = b ∧ b ≤ a from ⟨hval, hval1, hle⟩)
 have HB := md_ (Below.refl w.heap.size w)
 have HZ := md_ (Nat.le_refl w.heap.size)
 clear h0 h1 hlc hlc1 hC hC1 hla hlb hok hok1 hval hval1 hlen hlen1 hlen2 hn hm fa fb hle hcmm
 go_enter Tryz.func133, Tryz.ntmps133
 go_wp2_with (first
  | (go_at_call 104; (with_reducible refine HCM.out.mono ?_); rintro q w' ⟨rfl, hb⟩; replace HU := md_ (HU.out.below hb); replace HB := bt_ HB hb; clear hb)
  | (go_at_call 78; (with_reducible refine (T1.out _ HU.out).mono ?_); rintro q w' ⟨rfl, hw⟩; obtain rfl := hw.symm))
 go_loopg [6, 7, 8] n (fun kq v6 v7 v8 wr => ∃ (i cr : Nat) (x : List Int), v7 = .int .u64 (cr : Int) ∧ v8 = .int .i64 (i : Int) ∧ Aside0 (i + kq = n) ∧ Aside0 (SubA la lb i cr x) ∧ Aside0 (Kd.R (Kd.int .u32) 119 wr w.heap.size (fun _ => True) v6 x) ∧ Aside0 (Below w.heap.size w wr))
 case atStart => exact ⟨0, 0, [], rfl, rfl, ⟨Nat.zero_add n⟩, ⟨sub_start la lb⟩, ⟨Kd.R_nil _ _ _ _ _⟩, HB⟩
 case round =>
  clear HB HU
  obtain ⟨i, cr, x, rfl, rfl, HK, HS, HO, HB⟩ := hrel
  cases gk with
  | zero =>
   have hk : i = n := HK.out
   have hnn := HN.out
   have q2 := sub_end HS.out (by omega) (by omega) (by rw [HV.out.1, HV.out.2.1]; exact HV.out.2.2)
   rw [HV.out.1, HV.out.2.1] at q2
   have hxl := HS.out.1
   have HN1 := md_ (fun (wq : World) (vv : Value) (hx : Kd.R (Kd.int .u32) 119 wq w.heap.size (fun _ => True) vv x) => r_NormO (V_of hx) HS.out.2.1 (by omega))
   rw [q2] at HN1
   have d1 := decide_eq_false (show ¬ i < n by omega)
   clear hk hnn q2 hxl HK HS
   go_wp2_with (go_at_call 77; (with_reducible refine (HN1.out _ _ HO.out).mono ?_); rintro e w' ⟨q1, rfl, hr, hb⟩; have hq1 := md_ (hr.lower HB.out.size); replace HB := bt_ HB hb; clear hb hr)
   go_ret2
   exact ⟨_, rfl, hq1.out, HB.out⟩
  | succ j =>
   have hin : i < n := by have := HK.out; omega
   by_cases hb : i < m
   ·have hila : i < la.length := by have := HN.out; omega
    obtain ⟨g1la, g2la⟩ := get_nat HOK.out.1 hila
    have hwla := wd_in hila
    rw [← hwla] at g1la g2la
    obtain ⟨xla, hxla⟩ : ∃ z : Nat, wd la i = z := ⟨_, rfl⟩
    rw [hxla] at g1la g2la
    obtain ⟨adla, hAla, hzla⟩ := Kd.at_int HC.out (i : Int) (by omega) (by have := HN.out; omega)
    subst hAla
    have hrla : rd la (i : Int) = (xla : Int) := by
     unfold rd
     rw [Int.toNat_natCast, List.getD_eq_getElem?_getD, List.getElem?_eq_getElem hila]
     exact g1la.symm
    rw [hrla, Int.toNat_natCast] at hzla
    have hyla := pw_cell_below HB.out hzla
    clear hrla hwla g1la hzla hila
    obtain ⟨vla, hvla⟩ : ∃ y : Int, (xla : Int) = y := ⟨_, rfl⟩
    rw [hvla] at hyla
    have ela : IntKind.u64.wrap vla = vla := by rw [IntKind.wrap_u64]; omega
    have hilb : i < lb.length := by have := HN.out; omega
    obtain ⟨g1lb, g2lb⟩ := get_nat HOK.out.2 hilb
    have hwlb := wd_in hilb
    rw [← hwlb] at g1lb g2lb
    obtain ⟨xlb, hxlb⟩ : ∃ z : Nat, wd lb i = z := ⟨_, rfl⟩
    rw [hxlb] at g1lb g2lb
    obtain ⟨adlb, hAlb, hzlb⟩ := Kd.at_int HC1.out (i : Int) (by omega) (by have := HN.out; omega)
    subst hAlb
    have hrlb : rd lb (i : Int) = (xlb : Int) := by
     unfold rd
     rw [Int.toNat_natCast, List.getD_eq_getElem?_getD, List.getElem?_eq_getElem hilb]
     exact g1lb.symm
    rw [hrlb, Int.toNat_natCast] at hzlb
    have hylb := pw_cell_below HB.out hzlb
    clear hrlb hwlb g1lb hzlb hilb
    obtain ⟨vlb, hvlb⟩ : ∃ y : Int, (xlb : Int) = y := ⟨_, rfl⟩
    rw [hvlb] at hylb
    have elb : IntKind.u64.wrap vlb = vlb := by rw [IntKind.wrap_u64]; omega
    have hwb : wd lb i = xlb := hxlb
    have hcr := HS.out.2.2.1
    have hxl := HS.out.1
    obtain ⟨d, hd⟩ : ∃ d : Nat, (if xla < cr + xlb then 1 else 0) = d := ⟨_, rfl⟩
    have hdd : (xla < cr + xlb ∧ d = 1) ∨ (cr + xlb ≤ xla ∧ d = 0) := by rw [← hd]; split <;> omega
    obtain ⟨yv, hyv⟩ : ∃ y : Int, (xla : Int) - cr - (xlb : Int) + 4294967296 * d = y := ⟨_, rfl⟩
    have hst := sub_step (y := yv) (d := d) HS.out (by omega) (by omega) (by rw [hxla, hwb]; exact hyv)
    obtain ⟨cv, hcv⟩ : ∃ y : Int, (cr : Int) = y := ⟨_, rfl⟩
    obtain ⟨dv, hdv⟩ : ∃ y : Int, (d : Int) = y := ⟨_, rfl⟩
    obtain ⟨tv1, htv1⟩ : ∃ y : Int, (vla - cv) % 18446744073709551616 = y := ⟨_, rfl⟩
    have f1 : IntKind.u64.wrap (vla - cv) = tv1 := by rw [IntKind.wrap_u64]; exact htv1
    obtain ⟨tv, htv⟩ : ∃ y : Int, (tv1 - vlb) % 18446744073709551616 = y := ⟨_, rfl⟩
    have f2 : IntKind.u64.wrap (tv1 - vlb) = tv := by rw [IntKind.wrap_u64]; exact htv
    have f3 : IntKind.u32.wrap tv = yv := by rw [IntKind.wrap_u32]; omega
    have f4 : tv % 4294967296 = yv := by omega
    have f5 : tv / 9223372036854775808 = dv := by omega
    have W1 := wrp (x := (i : Int) + 1) (y := ((i + 1 : Nat) : Int)) (by have := HN.out; omega)
    have c1 : (0 : Int) ≤ (i : Int) := by omega
    have d1 := decide_eq_true (show i < n by omega)
    have d2 := decide_eq_true (show i < m by omega)
    have d3 : (i : Int) < (n : Int) := by omega
    have d4 : (i : Int) < (m : Int) := by omega
    have HS1 := md_ (show x.length ≤ 2000 by have := HN.out; omega)
    have HST := md_ hst
    have HK2 := md_ (show i + 1 + j = n by have := HK.out; omega)
    have HNV := md_ hdv
    rw [hcv]
    clear hwb hcr hxl hd hdd hyv hst hcv hdv htv1 htv hvlb hxlb g2lb hvla hxla g2la HK HS
    obtain ⟨w1, w2⟩ := W1.out
    clear W1
    go_wp2_with (first
    | ((with_reducible refine gate_builtin (b := .append) (xs := #[.tmp 40, .tmp 43]) rfl ?_); at_builtin; refine Kd.R_append_rows (Kd.int .u32) (w0 := w) w.heap.size rfl (.tmp 40) (.tmp 43) 96 119 (.int .u32 0) 4 rfl Tryz.underlying96 info119 rfl (by decide) (by omega) _ x ([yv] : List Int) _ _ _ (fun _ => True) (fun _ => False) rfl rfl ?aO ?aR (fun _ _ h => h) (fun _ h => h.elim) ?aF ?aB ?aS ?aL ?_; (case aR => exact (Kd.V_reads' (one_V wr yv)).2.2); (case aB => exact below_alloc HB.out _); (case aF => exact (fun _ _ => trivial)); (case aO => exact Kd.R_alloc HO.out _); (case aS => exact below_size (below_alloc HB.out _)); (case aL => have := HS1.out; show (_ + 1) * 4 ≤ _; omega); intro v1 w5 ho hb hg hat; have HO2 := md_ ho; have HB2 := md_ hb; clear ho hb hg hat))
    go_roundg j
    case measure => omega
    case rel => exact ⟨i + 1, d, x ++ [yv], by rw [HNV.out], by first | rfl | rw [w1] | rw [w2], HK2, HST, HO2, HB2⟩
   ·have hila : i < la.length := by have := HN.out; omega
    obtain ⟨g1la, g2la⟩ := get_nat HOK.out.1 hila
    have hwla := wd_in hila
    rw [← hwla] at g1la g2la
    obtain ⟨xla, hxla⟩ : ∃ z : Nat, wd la i = z := ⟨_, rfl⟩
    rw [hxla] at g1la g2la
    obtain ⟨adla, hAla, hzla⟩ := Kd.at_int HC.out (i : Int) (by omega) (by have := HN.out; omega)
    subst hAla
    have hrla : rd la (i : Int) = (xla : Int) := by
     unfold rd
     rw [Int.toNat_natCast, List.getD_eq_getElem?_getD, List.getElem?_eq_getElem hila]
     exact g1la.symm
    rw [hrla, Int.toNat_natCast] at hzla
    have hyla := pw_cell_below HB.out hzla
    clear hrla hwla g1la hzla hila
    obtain ⟨vla, hvla⟩ : ∃ y : Int, (xla : Int) = y := ⟨_, rfl⟩
    rw [hvla] at hyla
    have ela : IntKind.u64.wrap vla = vla := by rw [IntKind.wrap_u64]; omega
    have hwb : wd lb i = 0 := wd_out (by have := HN.out; omega)
    have hcr := HS.out.2.2.1
    have hxl := HS.out.1
    obtain ⟨d, hd⟩ : ∃ d : Nat, (if xla < cr + 0 then 1 else 0) = d := ⟨_, rfl⟩
    have hdd : (xla < cr + 0 ∧ d = 1) ∨ (cr + 0 ≤ xla ∧ d = 0) := by rw [← hd]; split <;> omega
    obtain ⟨yv, hyv⟩ : ∃ y : Int, (xla : Int) - cr - 0 + 4294967296 * d = y := ⟨_, rfl⟩
    have hst := sub_step (y := yv) (d := d) HS.out (by omega) (by omega) (by rw [hxla, hwb]; exact hyv)
    obtain ⟨cv, hcv⟩ : ∃ y : Int, (cr : Int) = y := ⟨_, rfl⟩
    obtain ⟨dv, hdv⟩ : ∃ y : Int, (d : Int) = y := ⟨_, rfl⟩
    obtain ⟨tv1, htv1⟩ : ∃ y : Int, (vla - cv) % 18446744073709551616 = y := ⟨_, rfl⟩
    have f1 : IntKind.u64.wrap (vla - cv) = tv1 := by rw [IntKind.wrap_u64]; exact htv1
    have f3 : IntKind.u32.wrap tv1 = yv := by rw [IntKind.wrap_u32]; omega
    have f4 : tv1 % 4294967296 = yv := by omega
    have f5 : tv1 / 9223372036854775808 = dv := by omega
    have W1 := wrp (x := (i : Int) + 1) (y := ((i + 1 : Nat) : Int)) (by have := HN.out; omega)
    have c1 : (0 : Int) ≤ (i : Int) := by omega
    have d1 := decide_eq_true (show i < n by omega)
    have d2 := decide_eq_false (show ¬ i < m by omega)
    have d3 : (i : Int) < (n : Int) := by omega
    have HS1 := md_ (show x.length ≤ 2000 by have := HN.out; omega)
    have HST := md_ hst
    have HK2 := md_ (show i + 1 + j = n by have := HK.out; omega)
    have HNV := md_ hdv
    rw [hcv]
    clear hwb hcr hxl hd hdd hyv hst hcv hdv htv1 hvla hxla g2la HK HS
    obtain ⟨w1, w2⟩ := W1.out
    clear W1
    go_wp2_with (first
    | ((with_reducible refine gate_builtin (b := .append) (xs := #[.tmp 40, .tmp 43]) rfl ?_); at_builtin; refine Kd.R_append_rows (Kd.int .u32) (w0 := w) w.heap.size rfl (.tmp 40) (.tmp 43) 96 119 (.int .u32 0) 4 rfl Tryz.underlying96 info119 rfl (by decide) (by omega) _ x ([yv] : List Int) _ _ _ (fun _ => True) (fun _ => False) rfl rfl ?aO ?aR (fun _ _ h => h) (fun _ h => h.elim) ?aF ?aB ?aS ?aL ?_; (case aR => exact (Kd.V_reads' (one_V wr yv)).2.2); (case aB => exact below_alloc HB.out _); (case aF => exact (fun _ _ => trivial)); (case aO => exact Kd.R_alloc HO.out _); (case aS => exact below_size (below_alloc HB.out _)); (case aL => have := HS1.out; show (_ + 1) * 4 ≤ _; omega); intro v1 w5 ho hb hg hat; have HO2 := md_ ho; have HB2 := md_ hb; clear ho hb hg hat))
    go_roundg j
    case measure => omega
    case rel => exact ⟨i + 1, d, x ++ [yv], by rw [HNV.out], by first | rfl | rw [w1] | rw [w2], HK2, HST, HO2, HB2⟩
end Go.Proofs.YtneepokiioefgaaGreatDoor.Dec
set_option maxHeartbeats 32000000
namespace Go.Proofs.YtneepokiioefgaaGreatDoor.Dec
open Go.RowKit Go.Div PNat Go.Proofs.YtneepokiioefgaaGreatDoor.Pure YtneepokiioefgaaGreatDoorW.PrintWords YtneepokiioefgaaGreatDoorW.PrintLast YtneepokiioefgaaGreatDoorW.PrintMore
set_option maxRecDepth 100000 in
theorem r_Divide_long {w : World} {v u : Value} {a b : Nat} (h0 : Nm w v a) (h1 : Nm w u b) (fa : Fit a) (fb : Fit (b * 4294967296)) (hb2 : 4294967296 ≤ b) :
  Calls Tryz.prog 105 #[v, u] w fun e w' => ∃ q r, e = .returned (.tuple #[q, r, .int .i64 0]) ∧ Nm w' q (a / b) ∧ Nm w' r (a % b) ∧ Below w.heap.size w w' := by
 have fb1 : Fit b := fit_le fb (by omega)
 have L0 := md_ (r_large h0 fa)
 have L1 := md_ (r_large h1 fb1)
 have T0 := md_ (r_trimmed h0)
 have T1 := md_ (r_trimmed h1)
 have HBN := md_ h1
 have hl1 : 1 < (Num.wordsN b).length := wordsN_len_ge (n := 1) (by rw [Nat.pow_one]; exact hb2)
 obtain ⟨A1, cb, rfl, _, _, _⟩ := h1.open
 obtain ⟨A, c, rfl, hlc, hC, _⟩ := h0.open
 obtain ⟨M, hM⟩ : ∃ n, (Num.wordsN b).length = n := ⟨_, rfl⟩
 rw [hM] at hl1 L1 T1 HBN
 rw [hM]
 have g1 : ((M : Int) == 0) = false := by rw [beq_eq_false_iff_ne]; omega
 have g2 : ((M : Int) == 1) = false := by rw [beq_eq_false_iff_ne]; omega
 have g3 : ¬ M = 0 := by omega
 have g4 : ¬ M = 1 := by omega
 have g5 : ¬ (M : Int) = 0 := by omega
 have g6 : ¬ (M : Int) = 1 := by omega
 obtain ⟨la, hla⟩ : ∃ l, Num.wordsN a = l := ⟨_, rfl⟩
 have hok := Num.wordsN_ok a
 have hval := Num.wordsN_val a
 have hlen : (Num.wordsN a).length ≤ 2000 := fa
 rw [hla] at hC hlc hok hval hlen L0 T0
 rw [hla]
 obtain ⟨n, hn⟩ : ∃ n, la.length = n := ⟨_, rfl⟩
 rw [hn] at hC hlc hlen L0 T0
 rw [hn]
 have HC := md_ hC
 have HOK := md_ hok
 have HN := md_ (show la.length = n ∧ n ≤ 2000 from ⟨hn, hlen⟩)
 have HV := md_ hval
 have HD := md_ (show 4294967296 ≤ b ∧ Fit b ∧ Fit (b * 4294967296) from ⟨hb2, fb1, fb⟩)
 have HB := md_ (Below.refl w.heap.size w)
 have w1 : wrap64 ((n : Int) - 1) = (n : Int) - 1 := i64_id (by omega) (by omega)
 have w2 : IntKind.i64.wrap ((n : Int) - 1) = (n : Int) - 1 := (i64_w _).trans w1
 have o1 : (0 : Int) ≤ (n : Int) := by omega
 have o2 : ((n : Int)).toNat ≤ 70368744177664 := by omega
 have p1 := decide_eq_true o1
 have p2 := decide_eq_true o2
 clear h0 h1 fa hla hok hval hlen hn hlc hC hb2 fb fb1 hM hl1
 go_enter Tryz.func105, Tryz.ntmps105
 go_wp2_with (first
  | (go_at_call 101; (with_reducible refine L0.out.mono ?_); rintro e w' ⟨rfl, hw⟩; obtain rfl := hw.symm)
  | (go_at_call 101; (with_reducible refine L1.out.mono ?_); rintro e w' ⟨rfl, hw⟩; obtain rfl := hw.symm)
  | (go_at_call 78; (with_reducible refine T0.out.mono ?_); rintro e w' ⟨rfl, hw⟩; obtain rfl := hw.symm)
  | (go_at_call 78; (with_reducible refine T1.out.mono ?_); rintro e w' ⟨rfl, hw⟩; obtain rfl := hw.symm)
  | ((with_reducible refine gate_dst (N := 47) rfl ?_); refine Kd.R_make (Kd.int .u32) _ 119 rfl (N := 47) rfl 96 _ _ rfl (n : Int) rfl rfl Tryz.underlying96 (.int .u32 0) 4 info119 rfl (by decide) (by omega) 0 (ok := fun _ => True) (okp := fun _ => True) rfl (fun _ hk => hk) trivial o1 (Nat.le_trans (Nat.mul_le_mul_right _ o2) (by omega)) (Below.refl _ _) (Nat.le_refl _) ?_; intro vq wq ho hb hg_ hnew_; clear hg_ hnew_; have HO := md_ (Kd.R_lower ho (below_size HB.out)); have n1_ := md_ (below_step HB.out hb); clear HB; have HB := n1_; clear n1_; clear hb ho))
 rw [Int.toNat_natCast] at HO
 have hend : hi (List.replicate n 0) n = 0 := by
  have := hi_end (List.replicate n 0)
  rw [List.length_replicate] at this
  exact this
 have hendA : hi la n = 0 := by rw [← HN.out.1]; exact hi_end la
 go_loopg [10, 11] n (fun kq v10 v11 wr => ∃ (x : List Int) (r : Nat), v11 = .int .i64 ((kq : Int) - 1) ∧ Aside0 (kq ≤ n ∧ x.length = n ∧ Num.okW x ∧ ∀ j (h : j < x.length), j < kq → x[j] = 0) ∧ Aside0 (hi x kq = hi la kq / b ∧ r = hi la kq % b) ∧ Aside0 (Kd.R (Kd.int .u32) 119 wr w.heap.size (fun _ => True) vq x) ∧ Aside0 (∃ base, (∀ k, vq.ownBlock = some k → k < base) ∧ Own wr base v10 r) ∧ Aside0 (Below w.heap.size w wr))
 case atStart => exact ⟨List.replicate n 0, 0, by first | rfl | (rw [w1]) | (rw [w2]), ⟨Nat.le_refl _, List.length_replicate, Go.Div.okW_zeros n, fun j h _ => List.getElem_replicate _⟩, ⟨by rw [hend, hendA, Nat.zero_div, Nat.zero_mod]; exact ⟨rfl, rfl⟩⟩, HO, ⟨wq.heap.size, fun k hk => ((Kd.R_bound HO.out).1 k hk).2.2.1, by unfold Own; rw [Num.wordsN_zero]; exact Kd.R_nil _ _ _ _ _⟩, HB⟩
 case round =>
  clear HO HB hend hendA
  obtain ⟨x, r, h8, HQ, HI, HO, HW, HB⟩ := hrel
  cases gk with
  | zero =>
   rw [show ((0 : Nat) : Int) - 1 = -1 from rfl] at h8
   subst h8
   have hq : Num.valN x = a / b := by have := HI.out.1; rw [hi_zero, hi_zero, HV.out] at this; exact this
   have hr : r = a % b := by have := HI.out.2; rw [hi_zero, HV.out] at this; exact this
   have HN1 := md_ (fun (wq : World) (hx : Kd.R (Kd.int .u32) 119 wq w.heap.size (fun _ => True) vq x) => r_NormV (V_of hx) HQ.out.2.2.1 (by have := HQ.out; have := HN.out; omega))
   rw [hq] at HN1
   obtain ⟨base, _, hown⟩ := HW.out
   rw [hr] at hown
   have HRN := md_ hown.nm
   clear hr hq hown
   go_wp2_with (go_at_call 77; (with_reducible refine (HN1.out _ HO.out).mono ?_); rintro e w' ⟨q1, rfl, hr, hb⟩; have hq1 := md_ hr; have m0_ := md_ (HRN.out.below hb); have n0_ := md_ (below_step HB.out hb); clear HB hb hr HRN; have HB := n0_; have HRN := m0_; clear n0_ m0_)
   go_ret3
   exact ⟨_, _, rfl, hq1.out, HRN.out, HB.out⟩
  | succ i =>
   rw [show ((i + 1 : Nat) : Int) - 1 = (i : Int) by omega] at h8
   subst h8
   have hin : i < n := by have := HQ.out.1; omega
   have hil : i < la.length := by have := HN.out.1; omega
   have hix : i < x.length := by have := HQ.out.2.1; omega
   obtain ⟨g7, g8⟩ := get_nat HOK.out hil
   obtain ⟨wi, hwi⟩ : ∃ z : Nat, (la[i]).toNat = z := ⟨_, rfl⟩
   rw [hwi] at g7 g8
   obtain ⟨ad, hA, hz0⟩ := Kd.at_int HC.out (i : Int) (by omega) (by omega)
   subst hA
   have hrd : rd la (i : Int) = (wi : Int) := by
    unfold rd
    rw [Int.toNat_natCast, List.getD_eq_getElem?_getD, List.getElem?_eq_getElem hil]
    exact g7.symm
   rw [hrd, Int.toNat_natCast] at hz0
   have hz := pw_cell_below HB.out hz0
   obtain ⟨base, hbase, hown⟩ := HW.out
   obtain ⟨Ar, cr, har, hlr, hCr, _⟩ := hown.nm.open
   subst har
   have hrl : r < b := by rw [HI.out.2]; exact Nat.mod_lt _ (by have := HD.out.1; omega)
   obtain ⟨r2, hr2⟩ : ∃ z : Nat, r * 4294967296 + wi = z := ⟨_, rfl⟩
   have hr2l : r2 < b * 4294967296 := by
    have : (r + 1) * 4294967296 ≤ b * 4294967296 := Nat.mul_le_mul_right _ hrl
    omega
   have fr2 : Fit r2 := fit_le HD.out.2.2 (by omega)
   have hval2 : Num.valN ([(wi : Int)] ++ Num.wordsN r) = r2 := by
    show (wi : Int).toNat + 4294967296 * Num.valN (Num.wordsN r) = r2
    rw [Num.wordsN_val]
    omega
   have hok2 : Num.okW ([(wi : Int)] ++ Num.wordsN r) := by
    intro z hz
    rcases List.mem_append.1 hz with h | h
    ·rw [List.mem_singleton.1 h]; omega
    ·exact Num.wordsN_ok r z h
   have frl : (Num.wordsN r).length ≤ 2000 := fit_le HD.out.2.1 (by omega)
   have HNO := md_ (fun (W : World) (vv : Value) (h : Kd.V (Kd.int .u32) 119 W 0 (fun _ => True) vv ([(wi : Int)] ++ Num.wordsN r)) => r_NormO h hok2 (by rw [List.length_append]; show 1 + _ ≤ _; omega))
   rw [hval2] at HNO
   have HCM := md_ (fun (W : World) (vv uu : Value) (h : Nm W vv r2) (k : Nm W uu b) => r_Compare h k fr2 HD.out.2.1)
   obtain ⟨wv, hwv⟩ : ∃ z : Int, (wi : Int) = z := ⟨_, rfl⟩
   have hCr' := md_ hCr
   have HL := md_ frl
   rw [hwv] at hz HNO
   obtain ⟨lr, hlr⟩ : ∃ l, Num.wordsN r = l := ⟨_, rfl⟩
   rw [hlr] at hCr' HNO HL
   rw [hlr]
   obtain ⟨cc, hcc⟩ : ∃ z, Num.cmpN r2 b = z := ⟨_, rfl⟩
   rw [hcc] at HCM
   have hccv : (r2 < b ∧ cc = -1) ∨ (b ≤ r2 ∧ 0 ≤ cc) := by
    rw [← hcc]
    unfold Num.cmpN
    split
    ·omega
    ·split <;> omega
   have c1 : (0 : Int) ≤ (i : Int) := by omega
   have c2 : (i : Int) < (n : Int) := by omega
   have HVB := md_ hbase
   have HR2 := md_ hr2
   have HRL := md_ hr2l
   have HWI := md_ (show hi la i = wi + 4294967296 * hi la (i + 1) ∧ wi < 4294967296 by rw [hi_step hil, hwi]; exact ⟨rfl, g8⟩)
   clear g7 g8 hwi hz0 hrd hown hCr hlr hrl hr2 hr2l fr2 hval2 hok2 frl hwv hcc hbase HW hin
   go_upto_region 16 with (first
    | ((with_reducible refine gate_builtin (b := .append) (xs := #[.tmp 59, .tmp 60]) rfl ?_); at_builtin; refine Kd.R_append_rows (Kd.int .u32) (w0 := w) w.heap.size rfl (.tmp 59) (.tmp 60) 96 119 (.int .u32 0) 4 rfl Tryz.underlying96 info119 rfl (by decide) (by omega) (.slice (some ⟨wr.heap.size, 0, none⟩) 1 1) ([wv] : List Int) lr _ _ _ (fun _ => True) (fun _ => False) rfl rfl ?aO ?aR (fun _ _ h => h) (fun _ h => h.elim) ?aF ?aB ?aS ?aL ?_; (case aR => exact Kd.C_alloc hCr'.out _); (case aB => exact below_alloc HB.out _); (case aF => exact (fun _ _ => trivial)); (case aO => exact Kd.R_lower (one_R wr wv) (below_size HB.out)); (case aS => exact below_size (below_alloc HB.out _)); (case aL => have := HL.out; show (1 + _) * 4 ≤ _; omega); intro v1 w5 ho hb hg hat; have HV1 := md_ (V_of ho); have hbb := md_ (show Below wr.heap.size wr w5 from Below.grown (below_alloc (Below.refl wr.heap.size wr) _) hg (by rw [World.size_alloc]; omega) (fun j hj => by cases hj; exact Nat.le_refl _)); clear ho hb hg hat)
    | (go_at_call 77; (refine (HNO.out _ _ HV1.out).mono ?_); rintro e w6 ⟨rv, rfl, hr, hb⟩; have hB6 := md_ (below_step hbb.out hb); have hrv := md_ (hr.lower hbb.out.size); clear hr hb hbb HV1))
   have HO6 := md_ (Kd.R_below HO.out hB6.out)
   have HB6 := md_ (below_step HB.out hB6.out)
   have HBase := md_ (fun k hk => ((Kd.R_bound HO.out).1 k hk).2.2.1)
   obtain ⟨Hb, hHb⟩ : ∃ z, wr.heap.size = z := ⟨_, rfl⟩
   rw [hHb] at hrv HBase
   have HBN6 := md_ (HBN.out.below HB6.out)
   clear HO HB hB6 hCr' HNO hHb hz
   rcases hccv with ⟨hlt, hcv⟩ | ⟨hge, hcv⟩
   ·have d1 := decide_eq_true (show cc < 0 by omega)
    have HI2 := md_ (show hi x i = hi la i / b ∧ r2 = hi la i % b from by
     obtain ⟨s1, s2⟩ := step_div (h := hi la (i + 1)) (w := wi) (show 0 < b by have := HD.out.1; omega)
     rw [hi_step hix, HQ.out.2.2.2 i hix (by omega), HWI.out.1, HI.out.1, s1, s2, ← HI.out.2, HR2.out, Nat.div_eq_of_lt hlt, Nat.mod_eq_of_lt hlt]
     exact ⟨rfl, rfl⟩)
    have HQ2 := md_ (show i ≤ n ∧ x.length = n ∧ Num.okW x ∧ ∀ j (h : j < x.length), j < i → x[j] = 0 from ⟨by omega, HQ.out.2.1, HQ.out.2.2.1, fun j h k => HQ.out.2.2.2 j h (by omega)⟩)
    have d7 : wrap64 ((i : Int) - 1) = (i : Int) - 1 := by have := HN.out; rw [i64_id (by omega) (by omega)]
    have d8 : IntKind.i64.wrap ((i : Int) - 1) = (i : Int) - 1 := (i64_w _).trans d7
    clear hlt hcv HI HQ hix hil
    go_wp2_with (go_at_call 104; (with_reducible refine (HCM.out _ _ _ hrv.out.nm HBN6.out).mono ?_); rintro e w7 ⟨rfl, hb⟩; replace HB6 := bt_ HB6 hb; replace HO6 := md_ (Kd.R_below HO6.out hb); replace hrv := md_ (hrv.out.below hb); clear hb)
    go_roundg i
    case measure => omega
    case rel => exact ⟨x, r2, by first | rfl | rw [d7] | rw [d8], HQ2, HI2, HO6, ⟨Hb, HBase.out, hrv.out⟩, HB6⟩
   ·have d1 := decide_eq_false (show ¬ cc < 0 by omega)
    clear hcv
    go_wp2_with (go_at_call 104; (with_reducible refine (HCM.out _ _ _ hrv.out.nm HBN6.out).mono ?_); rintro e w7 ⟨rfl, hb⟩; replace HB6 := bt_ HB6 hb; replace HO6 := md_ (Kd.R_below HO6.out hb); replace hrv := md_ (hrv.out.below hb); replace HBN6 := md_ (HBN6.out.below hb); clear hb)
    go_loopg [12, 13] 4294967294 (fun kq v12 v13 w2 => ∃ (lo hh : Nat), v12 = .int .u64 (lo : Int) ∧ v13 = .int .u64 (hh : Int) ∧ Aside0 (1 ≤ lo ∧ lo ≤ hh ∧ hh ≤ 4294967295 ∧ hh - lo ≤ kq ∧ b * lo ≤ r2 ∧ r2 < b * (hh + 1)) ∧ Aside0 (Kd.R (Kd.int .u32) 119 w2 w.heap.size (fun _ => True) vq x) ∧ Aside0 (Own w2 Hb rv r2) ∧ Aside0 (Nm w2 (.slice A1 M cb) b) ∧ Aside0 (Below w.heap.size w w2))
    case atStart => exact ⟨1, 4294967295, rfl, rfl, ⟨by decide, by decide, by decide, by decide, by omega, HRL.out⟩, HO6, hrv, HBN6, HB6⟩
    case round =>
     clear HO6 hrv HBN6 HB6
     obtain ⟨lo, hh, rfl, rfl, HL2, HO6, hrv, HBN6, HB6⟩ := hrel
     have hlo : lo < 4294967296 := by have := HL2.out; omega
     have HMM := md_ (fun (m : Nat) (hm : m < 4294967296) (hm0 : m ≠ 0) (W : World) (h : Nm W (.slice A1 M cb) b) => r_Mul (h.below (below_alloc (Below.refl _ _) (.cells #[.int .u32 (m : Int)] 119))) (one_Nm W m hm hm0) HD.out.2.1 (fit_lt (b := 32) hm (by omega)) (fit_le HD.out.2.2 (Nat.mul_le_mul_left _ (by omega))))
     by_cases hlt : lo < hh
     ·obtain ⟨m, hm⟩ : ∃ m, (lo + hh + 1) / 2 = m := ⟨_, rfl⟩
      have hmb : lo < m ∧ m ≤ hh ∧ m < 4294967296 := by have := HL2.out; omega
      have HMm := md_ (HMM.out m hmb.2.2 (by omega))
      have fbm : Fit (b * m) := fit_le HD.out.2.2 (Nat.mul_le_mul_left _ (by omega))
      have HC2 := md_ (fun (W : World) (vv uu : Value) (h : Nm W vv (b * m)) (k : Nm W uu r2) => r_Compare h k fbm (fit_le HD.out.2.2 (by have := HRL.out; omega)))
      obtain ⟨ce, hce⟩ : ∃ z, Num.cmpN (b * m) r2 = z := ⟨_, rfl⟩
      rw [hce] at HC2
      have hcev : (b * m ≤ r2 ∧ ce ≤ 0) ∨ (r2 < b * m ∧ 0 < ce) := by
       rw [← hce]
       unfold Num.cmpN
       split
       ·omega
       ·split <;> omega
      have c3 : ((lo : Int) < (hh : Int)) := by omega
      have c4 := decide_eq_true c3
      obtain ⟨lov, hlov⟩ : ∃ z : Int, (lo : Int) = z := ⟨_, rfl⟩
      obtain ⟨hhv, hhhv⟩ : ∃ z : Int, (hh : Int) = z := ⟨_, rfl⟩
      obtain ⟨mv, hmv⟩ : ∃ z : Int, (m : Int) = z := ⟨_, rfl⟩
      obtain ⟨s1, hs1⟩ : ∃ z : Int, lov + hhv = z := ⟨_, rfl⟩
      obtain ⟨s2, hs2⟩ : ∃ z : Int, s1 + 1 = z := ⟨_, rfl⟩
      have hhb := HL2.out.2.2.1
      have e1 : IntKind.u64.wrap (lov + hhv) = s1 := by rw [IntKind.wrap_u64]; omega
      have e2 : IntKind.u64.wrap (s1 + 1) = s2 := by rw [IntKind.wrap_u64]; omega
      have e3 : s2.tdiv 2 = mv := by
       rw [Int.tdiv_eq_ediv_of_nonneg (by omega)]
       omega
      have e4 : IntKind.u64.wrap mv = mv := by rw [IntKind.wrap_u64]; omega
      have e5 : IntKind.u32.wrap mv = mv := by rw [IntKind.wrap_u32]; omega
      have e6 : mv % 4294967296 = mv := by omega
      obtain ⟨mm, hmm⟩ : ∃ z : Int, mv - 1 = z := ⟨_, rfl⟩
      have e7 : IntKind.u64.wrap (mv - 1) = mm := by rw [IntKind.wrap_u64]; omega
      have e8 : s2 / 2 = mv := by omega
      rw [hmv] at HMm
      rw [hlov, hhhv] at c3 c4
      rw [hlov, hhhv]
      have HMV := md_ hmv
      have HMM1 := md_ (show ((m - 1 : Nat) : Int) = mm by omega)
      have HMB := md_ hmb
      have HLH := md_ (show lov = (lo : Int) ∧ hhv = (hh : Int) from ⟨hlov.symm, hhhv.symm⟩)
      clear hm hmb fbm hce hlov hhhv hmv hs1 hs2 hhb hmm hlt
      rcases hcev with ⟨k1, k2⟩ | ⟨k1, k2⟩
      ·have d2 := decide_eq_true k2
       have HQ3 := md_ (show 1 ≤ m ∧ m ≤ hh ∧ hh ≤ 4294967295 ∧ hh - m ≤ hh - m ∧ b * m ≤ r2 ∧ r2 < b * (hh + 1) from ⟨by have := HMB.out; omega, HMB.out.2.1, HL2.out.2.2.1, Nat.le_refl _, k1, HL2.out.2.2.2.2.2⟩)
       clear k1 k2
       go_wp2_with (first
        | (go_at_call 102; (refine (HMm.out _ HBN6.out).mono ?_); rintro e w8 ⟨pv, rfl, hr, hb⟩; have hB8 := md_ (below_step (below_alloc (Below.refl _ _) _) hb); have hp := md_ hr; replace HB6 := md_ (below_step HB6.out hB8.out); replace HO6 := md_ (Kd.R_below HO6.out hB8.out); replace hrv := md_ (hrv.out.below hB8.out); replace HBN6 := md_ (HBN6.out.below hB8.out); clear hb hr hB8)
        | (go_at_call 104; (with_reducible refine (HC2.out _ _ _ hp.out hrv.out.nm).mono ?_); rintro e w9 ⟨rfl, hb⟩; replace HB6 := bt_ HB6 hb; replace HO6 := md_ (Kd.R_below HO6.out hb); replace hrv := md_ (hrv.out.below hb); replace HBN6 := md_ (HBN6.out.below hb); clear hb))
       go_roundg (hh - m)
       case measure => have := HL2.out; have := HMB.out; omega
       case rel => exact ⟨m, hh, by rw [HMV.out], by rw [HLH.out.2], HQ3, HO6, hrv, HBN6, HB6⟩
      ·have d2 := decide_eq_false (show ¬ ce ≤ 0 by omega)
       have HQ3 := md_ (show 1 ≤ lo ∧ lo ≤ m - 1 ∧ m - 1 ≤ 4294967295 ∧ m - 1 - lo ≤ m - 1 - lo ∧ b * lo ≤ r2 ∧ r2 < b * (m - 1 + 1) from ⟨HL2.out.1, by have := HMB.out; omega, by have := HMB.out; omega, Nat.le_refl _, HL2.out.2.2.2.2.1, by rw [show m - 1 + 1 = m by have := HMB.out; omega]; exact k1⟩)
       clear k1 k2
       go_wp2_with (first
        | (go_at_call 102; (refine (HMm.out _ HBN6.out).mono ?_); rintro e w8 ⟨pv, rfl, hr, hb⟩; have hB8 := md_ (below_step (below_alloc (Below.refl _ _) _) hb); have hp := md_ hr; replace HB6 := md_ (below_step HB6.out hB8.out); replace HO6 := md_ (Kd.R_below HO6.out hB8.out); replace hrv := md_ (hrv.out.below hB8.out); replace HBN6 := md_ (HBN6.out.below hB8.out); clear hb hr hB8)
        | (go_at_call 104; (with_reducible refine (HC2.out _ _ _ hp.out hrv.out.nm).mono ?_); rintro e w9 ⟨rfl, hb⟩; replace HB6 := bt_ HB6 hb; replace HO6 := md_ (Kd.R_below HO6.out hb); replace hrv := md_ (hrv.out.below hb); replace HBN6 := md_ (HBN6.out.below hb); clear hb))
       go_roundg (m - 1 - lo)
       case measure => have := HL2.out; have := HMB.out; omega
       case rel => exact ⟨lo, m - 1, by rw [HLH.out.1], by rw [HMM1.out], HQ3, HO6, hrv, HBN6, HB6⟩
     ·have hlohh : lo = hh := by have := HL2.out; omega
      have hq : r2 / b = lo := by
       have hbp : 0 < b := by have := HD.out.1; omega
       have k1 : b * lo ≤ r2 := HL2.out.2.2.2.2.1
       have k2 : r2 < b * (lo + 1) := by rw [hlohh]; exact HL2.out.2.2.2.2.2
       exact Nat.le_antisymm (Nat.le_of_lt_succ ((Nat.div_lt_iff_lt_mul hbp).2 (by rw [Nat.mul_comm]; exact k2))) ((Nat.le_div_iff_mul_le hbp).2 (by rw [Nat.mul_comm]; exact k1))
      have hmod : r2 - b * lo = r2 % b := by
       have := Nat.div_add_mod r2 b
       rw [hq] at this
       omega
      have HQ3 := md_ (show 1 ≤ lo ∧ lo < 4294967296 ∧ b * lo ≤ r2 ∧ r2 - b * lo = r2 % b ∧ r2 / b = lo from ⟨HL2.out.1, hlo, HL2.out.2.2.2.2.1, hmod, hq⟩)
      have HMm := md_ (HMM.out lo hlo (by have := HL2.out; omega))
      have fr2 : Fit r2 := fit_le HD.out.2.2 (by have := HRL.out; omega)
      have HS := md_ (fun (W : World) (vv uu : Value) (h : Nm W vv r2) (k : Nm W uu (b * lo)) => r_SubO h k fr2 (fit_le HD.out.2.2 (by have := HL2.out; have := HRL.out; omega)) HL2.out.2.2.2.2.1)
      have c3 : ¬ ((lo : Int) < (hh : Int)) := by omega
      have c4 := decide_eq_false c3
      obtain ⟨lov, hlov⟩ : ∃ z : Int, (lo : Int) = z := ⟨_, rfl⟩
      obtain ⟨hhv, hhhv⟩ : ∃ z : Int, (hh : Int) = z := ⟨_, rfl⟩
      have e5 : IntKind.u32.wrap lov = lov := by rw [IntKind.wrap_u32]; omega
      have e6 : lov % 4294967296 = lov := by omega
      have HLV := md_ (show (lo : Int) = lov ∧ 0 ≤ lov ∧ lov < 4294967296 by omega)
      rw [hlov] at HMm c3 c4
      rw [hhhv] at c3 c4
      rw [hlov, hhhv]
      clear hlt hlohh hq hmod fr2 hlov hhhv HMM HL2 hlo
      go_upto_region 27 with (first
       | (go_at_call 102; (refine (HMm.out _ HBN6.out).mono ?_); rintro e w8 ⟨pv, rfl, hr, hb⟩; have hB8 := md_ (below_step (below_alloc (Below.refl _ _) _) hb); have hp := md_ hr; replace HB6 := md_ (below_step HB6.out hB8.out); replace HO6 := md_ (Kd.R_below HO6.out hB8.out); replace hrv := md_ (hrv.out.below hB8.out); replace HBN6 := md_ (HBN6.out.below hB8.out); clear hb hr hB8)
       | (go_at_call 133; (refine (HS.out _ _ _ hrv.out.nm hp.out).mono ?_); rintro e w9 ⟨sv, rfl, hr, hb⟩; have n0_ := md_ (below_step HB6.out hb); have n1_ := md_ (Kd.R_below HO6.out hb); have n2_ := md_ hr; have n3_ := md_ (fun k hk => ((Kd.R_bound HO6.out).1 k hk).2.2.1); clear HB6 HO6 hrv hb hr hp HBase; have HB6 := n0_; have HO6 := n1_; have hrv := n2_; have HBase := n3_; clear n0_ n1_ n2_ n3_))
      obtain ⟨go, co, rfl, gb, gl, cl, HG⟩ := Kd.R_form HO6.out (by have := HQ.out; omega)
      obtain ⟨hx, hf⟩ := Kd.R_celln 0 HO6.out (i : Int) (by omega) (by omega)
      rw [Int.toNat_natCast] at hx hf
      have c3 : (i : Int) < (x.length : Int) := by omega
      have HP := md_ (Kd.R_putg HO6.out (i : Int) lov)
      rw [Int.toNat_natCast] at HP
      have GB := md_ gb
      have GHb := md_ (HBase.out go rfl)
      have HQ2 := md_ (show i ≤ n ∧ (x.set i lov).length = n ∧ Num.okW (x.set i lov) ∧ ∀ j (h : j < (x.set i lov).length), j < i → (x.set i lov)[j] = 0 from ⟨by have := HQ.out; omega, by rw [List.length_set]; exact HQ.out.2.1, okW_set HQ.out.2.2.1 i HLV.out.2, fun j h k => by rw [List.getElem_set_ne (by omega)]; exact HQ.out.2.2.2 j (by rw [List.length_set] at h; exact h) (by omega)⟩)
      have HI2 := md_ (show hi (x.set i lov) i = hi la i / b ∧ r2 - b * lo = hi la i % b from by
       obtain ⟨s1, s2⟩ := step_div (h := hi la (i + 1)) (w := wi) (show 0 < b by have := HD.out.1; omega)
       rw [hi_set hix, HWI.out.1, HI.out.1, s1, s2, ← HI.out.2, HR2.out, HQ3.out.2.2.2.1, HQ3.out.2.2.2.2]
       refine ⟨?_, rfl⟩
       congr 1
       have := HLV.out
       omega)
      have d7 : wrap64 ((i : Int) - 1) = (i : Int) - 1 := by have := HN.out; have := HQ.out; rw [i64_id (by omega) (by omega)]
      have d8 : IntKind.i64.wrap ((i : Int) - 1) = (i : Int) - 1 := (i64_w _).trans d7
      clear gb gl cl HG hix hil HI HO6 HQ
      go_wp2
      go_roundg i
      case measure => omega
      case rel => exact ⟨x.set i lov, r2 - b * lo, by first | rfl | rw [d7] | rw [d8], HQ2, HI2, ⟨HP.out.1⟩, ⟨_, fun k hk => HBase.out k hk, R_keep hrv.out HP.out.2 GHb.out⟩, ⟨below_set HB6.out GB.out⟩⟩
theorem r_Divide {w : World} {v u : Value} {a b : Nat} (h0 : Nm w v a) (h1 : Nm w u b) (fa : Fit a) (fb : Fit (b * 4294967296)) (hb0 : b ≠ 0) :
  Calls Tryz.prog 105 #[v, u] w fun e w' => ∃ q r, e = .returned (.tuple #[q, r, .int .i64 0]) ∧ Nm w' q (a / b) ∧ Nm w' r (a % b) ∧ Below w.heap.size w w' := by
 by_cases h : b < 4294967296
 ·exact r_Divide_one h0 h1 fa hb0 h
 ·exact r_Divide_long h0 h1 fa fb (by omega)
end Go.Proofs.YtneepokiioefgaaGreatDoor.Dec
set_option maxHeartbeats 32000000
namespace Go.Proofs.YtneepokiioefgaaGreatDoor.Dec
open Go.RowKit Go.Div PNat Go.Proofs.YtneepokiioefgaaGreatDoor.Pure YtneepokiioefgaaGreatDoorW.PrintWords YtneepokiioefgaaGreatDoorW.PrintLast YtneepokiioefgaaGreatDoorW.PrintMore
set_option maxRecDepth 100000 in
theorem r_Low {w : World} {v : Value} {a : Nat} (h : Nm w v a) (fa : Fit a) :
  Calls Tryz.prog 107 #[v] w fun e w' => e = .returned (.int .u64 ((a % 18446744073709551616 : Nat) : Int)) ∧ w' = w := by
 obtain ⟨A, c, rfl, hc, hC, _⟩ := h.open
 obtain ⟨n, hn⟩ : ∃ n, (Num.wordsN a).length = n := ⟨_, rfl⟩
 have hf : (Num.wordsN a).length ≤ 2000 := fa
 rw [hn] at hC hc hf h ⊢
 by_cases c0 : n = 0
 ·subst c0
  have ha : a = 0 := by rw [← Num.wordsN_val a, List.eq_nil_of_length_eq_zero hn]; rfl
  subst ha
  clear hn hC h hf fa hc
  go_enter Tryz.func107, Tryz.ntmps107
  go_wp2
  go_ret
  exact ⟨rfl, rfl⟩
 ·obtain ⟨ad, hA, hz⟩ := head_word h hn (by omega)
  subst hA
  obtain ⟨x, hx⟩ : ∃ z : Nat, a % 4294967296 = z := ⟨_, rfl⟩
  rw [hx] at hz
  have g0 := decide_eq_true (show 0 < n by omega)
  have gn : 0 < n := by omega
  have u1 : IntKind.u64.wrap (x : Int) = (x : Int) := by rw [IntKind.wrap_u64]; omega
  by_cases c1 : n = 1
  ·subst c1
   have ha : a % 18446744073709551616 = x := by
    have h1 := fit_iff.1 (Nat.le_of_eq hn)
    rw [Nat.pow_one] at h1
    omega
   rw [ha]
   obtain ⟨xv, hxv⟩ : ∃ z : Int, (x : Int) = z := ⟨_, rfl⟩
   rw [hxv] at hz u1 ⊢
   clear hn hC h hf fa hc hx hxv ha c0
   go_enter Tryz.func107, Tryz.ntmps107
   go_wp2
   go_ret
   exact ⟨by first | rfl | rw [u1], rfl⟩
  ·have hz1 := Kd.foot_int hC 1 (by omega) (by omega)
   have g1 := decide_eq_true (show (1 : Int) < (n : Int) by omega)
   have g2 : (1 : Int) < (n : Int) := by omega
   have g3 : (0 : Int) < (n : Int) := by omega
   have h4 : 4294967296 ≤ a := by
    rcases Nat.lt_or_ge a 4294967296 with z | z
    ·have := wordsN_len (n := 1) (by rw [Nat.pow_one]; exact z)
     omega
    ·exact z
   have hr : rd (Num.wordsN a) 1 = ((a / 4294967296 % 4294967296 : Nat) : Int) := by
    rw [Num.wordsN_pos (by omega), Num.wordsN_pos (v := a / 4294967296) (Nat.div_pos h4 (by decide))]
    rfl
   rw [hr] at hz1
   obtain ⟨y, hy⟩ : ∃ z : Nat, a / 4294967296 % 4294967296 = z := ⟨_, rfl⟩
   rw [hy] at hz1
   rw [show a % 18446744073709551616 = y * 4294967296 + x by omega]
   obtain ⟨s, hs⟩ : ∃ z : Int, ((y * 4294967296 + x : Nat) : Int) = z := ⟨_, rfl⟩
   have b1 : bits .or .u64 (x : Int) ((y : Int) * 4294967296) = s := by
    rw [show (y : Int) * 4294967296 = ((y * 4294967296 : Nat) : Int) by omega, u64_or_nat _ _ (by omega) (by omega), ← hs]
    congr 1
    rw [Nat.or_comm]
    have p32 : (2 : Nat) ^ 32 = 4294967296 := rfl
    exact nat_join 32 (y * 4294967296) x (by rw [p32]; exact Nat.mul_mod_left _ _) (by rw [p32]; omega)
   have u2 : IntKind.u64.wrap ((y : Int) * 4294967296) = (y : Int) * 4294967296 := by rw [IntKind.wrap_u64]; omega
   have u3 : IntKind.u64.wrap (y : Int) = (y : Int) := by rw [IntKind.wrap_u64]; omega
   rw [hs]
   obtain ⟨xv, hxv⟩ : ∃ z : Int, (x : Int) = z := ⟨_, rfl⟩
   obtain ⟨yv, hyv⟩ : ∃ z : Int, (y : Int) = z := ⟨_, rfl⟩
   rw [hxv] at hz u1 b1
   rw [hyv] at hz1 b1 u2 u3
   rw [show ad.add (1 : Int).toNat = ⟨ad.block, ad.off + 1, none⟩ from rfl] at hz1
   clear hn hC h hf fa hc hx hxv c0 c1 hy hyv hr h4 hs
   go_enter Tryz.func107, Tryz.ntmps107
   go_wp2
   go_ret
   exact ⟨by first | rfl | rw [b1], rfl⟩
end Go.Proofs.YtneepokiioefgaaGreatDoor.Dec
set_option maxHeartbeats 32000000
namespace Go.Proofs.YtneepokiioefgaaGreatDoor.Dec
open Go.RowKit Go.Div PNat Go.Proofs.YtneepokiioefgaaGreatDoor.Pure YtneepokiioefgaaGreatDoorW.PrintWords YtneepokiioefgaaGreatDoorW.PrintLast YtneepokiioefgaaGreatDoorW.PrintMore
set_option maxRecDepth 100000 in
theorem r_Shl {w : World} {v : Value} {a : Nat} (h0 : Nm w v a) (fa : Fit a) (m : Nat) (hm0 : 0 < m) (hm : m ≤ 64000) (hf : Fit (a * 2 ^ m)) :
  Calls Tryz.prog 73 #[v, .int .i64 (m : Int)] w fun e w' => ∃ r, e = .returned (.tuple #[r, .int .i64 0]) ∧ Nm w' r (a * 2 ^ m) ∧ Below w.heap.size w w' := by
 have L0 := md_ (r_large h0 fa)
 have T0 := md_ (r_trimmed h0)
 obtain ⟨A, c, rfl, hlc, hC, _⟩ := h0.open
 obtain ⟨la, hla⟩ : ∃ l, Num.wordsN a = l := ⟨_, rfl⟩
 have hok := Num.wordsN_ok a
 have hval := Num.wordsN_val a
 have hlen : (Num.wordsN a).length ≤ 2000 := fa
 rw [hla] at hC hlc hok hval hlen L0 T0
 rw [hla]
 obtain ⟨n, hn⟩ : ∃ n, la.length = n := ⟨_, rfl⟩
 rw [hn] at hC hlc hlen L0 T0
 rw [hn]
 obtain ⟨q, hq⟩ : ∃ q, m / 32 = q := ⟨_, rfl⟩
 obtain ⟨r, hr⟩ : ∃ r, m % 32 = r := ⟨_, rfl⟩
 have hmr : 32 * q + r = m := by omega
 have HC := md_ hC
 have HOK := md_ hok
 have HN := md_ (show la.length = n ∧ n ≤ 2000 from ⟨hn, hlen⟩)
 have HV := md_ hval
 have HF := md_ hf
 have HQ := md_ (show q ≤ 2000 ∧ r < 32 ∧ 32 * q + r = m by omega)
 have HB := md_ (Below.refl w.heap.size w)
 obtain ⟨mv, hmv⟩ : ∃ z : Int, (m : Int) = z := ⟨_, rfl⟩
 have Z1 := wrp (x := (q : Int)) (y := (q : Int)) (by omega)
 have Z2 := wrp (x := (n : Int) + (q : Int)) (y := ((n + q : Nat) : Int)) (by omega)
 have Z3 := wrp (x := ((n + q : Nat) : Int) + 1) (y := ((n + q + 1 : Nat) : Int)) (by omega)
 obtain ⟨N, hN⟩ : ∃ z, n + q + 1 = z := ⟨_, rfl⟩
 rw [hN] at Z3
 obtain ⟨nq, hnq⟩ : ∃ z : Int, ((n + q : Nat) : Int) = z := ⟨_, rfl⟩
 rw [hnq] at Z2 Z3
 have HNN := md_ hN
 have x2 := decide_eq_false (show ¬ (64000 : Int) < mv by omega)
 have x3 := decide_eq_true (show (0 : Int) < mv by omega)
 have x4 : (0 : Int) ≤ (r : Int) := by omega
 have o1 : (0 : Int) ≤ (N : Int) := by omega
 have o2 : ((N : Int)).toNat ≤ 70368744177664 := by omega
 have p1 := decide_eq_true o1
 have p2 := decide_eq_true o2
 have z1 : mv.tdiv 32 = (q : Int) := by rw [← hmv, ← hq]; exact (Int.ofNat_tdiv _ _).symm
 have z2 : mv.tmod 32 = (r : Int) := by rw [← hmv, ← hr]; exact (Int.ofNat_tmod _ _).symm
 rw [hmv]
 clear h0 fa hla hok hval hlen hn hlc hC hm hm0 hq hr hmr hmv hf hN hnq
 obtain ⟨z3, z4⟩ := Z1.out
 obtain ⟨z5, z6⟩ := Z2.out
 obtain ⟨z7, z8⟩ := Z3.out
 clear Z1 Z2 Z3
 go_enter Tryz.func73, Tryz.ntmps73
 go_wp2_with (first
  | (go_at_call 101; (with_reducible refine L0.out.mono ?_); rintro e w' ⟨rfl, hw⟩; obtain rfl := hw.symm)
  | (go_at_call 78; (with_reducible refine T0.out.mono ?_); rintro e w' ⟨rfl, hw⟩; obtain rfl := hw.symm)
  | ((with_reducible refine gate_dst (N := 28) rfl ?_); refine Kd.R_make (Kd.int .u32) _ 119 rfl (N := 28) rfl 96 _ _ rfl (N : Int) rfl rfl Tryz.underlying96 (.int .u32 0) 4 info119 rfl (by decide) (by omega) 0 (ok := fun _ => True) (okp := fun _ => True) rfl (fun _ hk => hk) trivial o1 (Nat.le_trans (Nat.mul_le_mul_right _ o2) (by omega)) (Below.refl _ _) (Nat.le_refl _) ?_; intro vq wq ho hb hg_ hnew_; clear hg_ hnew_; have HO := md_ (Kd.R_lower ho (below_size HB.out)); have n1_ := md_ (below_step HB.out hb); clear HB; have HB := n1_; clear n1_; clear hb ho))
 rw [Int.toNat_natCast] at HO
 have HS0 := shl_start la q r
 rw [HN.out.1, HNN.out] at HS0
 go_loopg [7] n (fun kq v7 wr => ∃ (k : Nat) (x : List Int), v7 = .int .i64 (k : Int) ∧ Aside0 (k + kq = n) ∧ Aside0 (Shl la q r k x) ∧ Aside0 (Kd.R (Kd.int .u32) 119 wr w.heap.size (fun _ => True) vq x) ∧ Aside0 (Below w.heap.size w wr))
 case atStart => exact ⟨0, List.replicate N 0, rfl, ⟨Nat.zero_add n⟩, ⟨HS0⟩, HO, HB⟩
 case round =>
  clear HO HB HS0
  obtain ⟨k, x, rfl, HK, HS, HO, HB⟩ := hrel
  cases gk with
  | zero =>
   have hk : k = n := HK.out
   subst hk
   have hlx : x.length = N := by rw [HS.out.1, HN.out.1]; exact HNN.out
   have hvx : Num.valN x = a * 2 ^ m := by
    have h := HS.out
    rw [← HN.out.1] at h
    rw [shl_end h, HV.out, HQ.out.2.2]
   have HN1 := md_ (fun (wq : World) (hx : Kd.R (Kd.int .u32) 119 wq w.heap.size (fun _ => True) vq x) => r_NormV (V_of hx) HS.out.2.1 (by have := HNN.out; have := HN.out; have := HQ.out; omega))
   rw [hvx] at HN1
   have x5 := decide_eq_false (show ¬ (k : Int) < (k : Int) by omega)
   obtain ⟨L, hL⟩ : ∃ z, (Num.wordsN (a * 2 ^ m)).length = z := ⟨_, rfl⟩
   have hL2 := HF.out
   unfold Fit at hL2
   have HL := md_ hL
   rw [hL] at hL2
   have x6 := decide_eq_false (show ¬ (2000 : Int) < (L : Int) by omega)
   clear hlx hvx hL hL2
   go_wp2_with (go_at_call 77; (with_reducible refine (HN1.out _ HO.out).mono ?_); rintro e w' ⟨q1, rfl, hr, hb⟩; obtain ⟨Aq, cq, haq, -, -, -⟩ := hr.open; rw [HL.out] at haq; subst haq; have hq1 := md_ hr; replace HB := bt_ HB hb; clear hb hr)
   go_ret2
   exact ⟨_, rfl, hq1.out, HB.out⟩
  | succ i =>
   have hkn : k < n := by have := HK.out; omega
   have hil : k < la.length := by have := HN.out.1; omega
   have hlx : x.length = N := by rw [HS.out.1, HN.out.1]; exact HNN.out
   have hnn := HNN.out
   have hqq := HQ.out
   have hnl := HN.out
   obtain ⟨g7, g8⟩ := get_nat HOK.out hil
   obtain ⟨wi, hwi⟩ : ∃ z : Nat, (la[k]).toNat = z := ⟨_, rfl⟩
   rw [hwi] at g7 g8
   obtain ⟨ad, hA, hz0⟩ := Kd.at_int HC.out (k : Int) (by omega) (by omega)
   subst hA
   have hrd : rd la (k : Int) = (wi : Int) := by
    unfold rd
    rw [Int.toNat_natCast, List.getD_eq_getElem?_getD, List.getElem?_eq_getElem hil]
    exact g7.symm
   rw [hrd, Int.toNat_natCast] at hz0
   have hz := pw_cell_below HB.out hz0
   have i1 : k + q < x.length := by omega
   obtain ⟨z, hzz⟩ : ∃ z : Nat, (x[k + q]).toNat = z := ⟨_, rfl⟩
   obtain ⟨g1, g2⟩ := get_nat HS.out.2.1 i1
   rw [hzz] at g1 g2
   obtain ⟨X, hX⟩ : ∃ z : Nat, wi * 2 ^ r = z := ⟨_, rfl⟩
   obtain ⟨s1, s2, s3, s4⟩ := shl_step hil HOK.out hqq.2.1 HS.out (x := X) (z := z) (by rw [hwi]; exact hX) (fun _ => hzz)
   have i2 : k + q + 1 < x.length := by omega
   have hzero := HS.out.2.2.2.2 _ i2 (by omega)
   obtain ⟨go, co, rfl, gb, gl, cl, HG⟩ := Kd.R_form HO.out (by omega)
   obtain ⟨hx, hf⟩ := Kd.R_celln 0 HO.out ((k + q : Nat) : Int) (by omega) (by omega)
   have hr0 : rdOf 0 x ((k + q : Nat) : Int) = (z : Int) := by
    unfold rdOf
    rw [Int.toNat_natCast, List.getD_eq_getElem?_getD, List.getElem?_eq_getElem i1]
    exact g1.symm
   rw [hr0] at hx
   rw [Int.toNat_natCast] at hx hf
   have hsh := shl64 wi r (by omega)
   rw [hX, Nat.mod_eq_of_lt (by omega)] at hsh
   unfold shl at hsh
   rw [show IntKind.u64.bits = 64 from rfl, Int.toNat_natCast] at hsh
   have hlow0 : X % 4294967296 % 2 ^ r = 0 := by rw [← hX]; exact shl_low (by omega)
   have b1 : bits .or .u32 (z : Int) ((X % 4294967296 : Nat) : Int) = ((z + X % 4294967296 : Nat) : Int) := by
    rw [u32_or_nat _ _ (by omega) (by omega), Nat.or_comm, nat_join r _ _ hlow0 s3, Nat.add_comm]
   have b2 : bits .or .u32 0 ((X / 4294967296 : Nat) : Int) = ((X / 4294967296 : Nat) : Int) := by
    rw [show (0 : Int) = ((0 : Nat) : Int) from rfl, u32_or_nat _ _ (by omega) (by omega), Nat.zero_or]
   obtain ⟨K, hK⟩ : ∃ z, k + q = z := ⟨_, rfl⟩
   obtain ⟨K1, hK1⟩ : ∃ z, K + 1 = z := ⟨_, rfl⟩
   have W1 := wrp (x := (k : Int) + (q : Int)) (y := (K : Int)) (by omega)
   have W2 := wrp (x := (K : Int) + 1) (y := (K1 : Int)) (by omega)
   have W3 := wrp (x := (k : Int) + 1) (y := ((k + 1 : Nat) : Int)) (by omega)
   rw [hK] at hx hf s4 i1 i2
   rw [hK1] at s4 i2
   obtain ⟨y1, hy1⟩ : ∃ y : Int, ((z + X % 4294967296 : Nat) : Int) = y := ⟨_, rfl⟩
   obtain ⟨y2, hy2⟩ : ∃ y : Int, ((X / 4294967296 : Nat) : Int) = y := ⟨_, rfl⟩
   obtain ⟨xl, hxl⟩ : ∃ y : Int, ((X % 4294967296 : Nat) : Int) = y := ⟨_, rfl⟩
   obtain ⟨Xv, hXv⟩ : ∃ y : Int, ((X : Nat) : Int) = y := ⟨_, rfl⟩
   rw [hy1, hxl] at b1
   rw [hy1, hy2] at s4
   rw [hy2] at b2
   rw [hXv] at hsh
   have c1 : (0 : Int) ≤ (k : Int) := by omega
   have c2 : (k : Int) < (n : Int) := by omega
   have c3 : (0 : Int) ≤ (K : Int) := by omega
   have c4 : (K : Int) < (x.length : Int) := by omega
   have c5 : (0 : Int) ≤ (K1 : Int) := by omega
   have c6 : (K1 : Int) < (x.length : Int) := by omega
   have e1 : IntKind.u32.wrap Xv = xl := by rw [IntKind.wrap_u32]; omega
   have e2 : Xv % 4294967296 = xl := by omega
   have e3 : Xv / 4294967296 = y2 := by omega
   have e4 : IntKind.u32.wrap y2 = y2 := by rw [IntKind.wrap_u32]; omega
   have e5 : y2 % 4294967296 = y2 := by omega
   obtain ⟨wv, hwv⟩ : ∃ y : Int, (wi : Int) = y := ⟨_, rfl⟩
   have e6 : IntKind.u64.wrap wv = wv := by rw [IntKind.wrap_u64]; omega
   obtain ⟨zv, hzv⟩ : ∃ y : Int, (z : Int) = y := ⟨_, rfl⟩
   rw [hwv] at hsh hz
   rw [hzv] at hx b1
   have HP := md_ (Kd.R_putg HO.out (K : Int) y1)
   rw [Int.toNat_natCast] at HP
   have GB := md_ gb
   have HZ := md_ hzero
   have HK2 := md_ (show k + 1 + i = n by have := HK.out; omega)
   have HS2 := md_ s4
   have HKK := md_ (show K < x.length ∧ K1 < x.length ∧ K1 = K + 1 ∧ k + q = K ∧ K ≠ K1 by omega)
   clear hkn hil hlx hnn hqq hnl g7 g8 hwi hrd hz0 g1 g2 hzz hX s1 s2 s3 s4 i1 i2 hzero gb gl cl HG hr0 hlow0 hK hK1 hy1 hy2 hxl hXv hwv hzv HK HS
   obtain ⟨w1, w2⟩ := W1.out
   obtain ⟨w3, w4⟩ := W2.out
   obtain ⟨w5, w6⟩ := W3.out
   clear W1 W2 W3
   go_upto_region 11 with (fail)
   have HO2 := HP.out.1
   have HB2 := below_set HB.out (v := .int .u32 y1) (j := K) GB.out
   generalize hW : World.setCell _ _ _ = w6 at HO2 HB2 ⊢
   obtain ⟨hx2, hf2⟩ := Kd.R_celln 0 HO2 (K1 : Int) c5 c6
   have hr2 : rdOf 0 (x.set K y1) (K1 : Int) = 0 := by
    have hk := HKK.out
    unfold rdOf
    rw [Int.toNat_natCast, List.getD_eq_getElem?_getD, List.getElem?_eq_getElem (by rw [List.length_set]; exact hk.2.1)]
    show (x.set K y1)[K1]'_ = 0
    rw [List.getElem_set_ne hk.2.2.2.2]
    have := HZ.out
    simp only [hk.2.2.2.1, ← hk.2.2.1] at this
    exact this
   rw [hr2] at hx2
   rw [Int.toNat_natCast] at hx2 hf2
   have HP2 := md_ (Kd.R_putg HO2 (K1 : Int) y2)
   rw [Int.toNat_natCast] at HP2
   have HB3 := md_ HB2
   clear hr2 HO2 HB2 HP HZ HKK HB HO hx hf hW
   go_wp2
   go_roundg i
   case measure => omega
   case rel => exact ⟨k + 1, (x.set K y1).set K1 y2, by first | rfl | rw [w5] | rw [w6], HK2, HS2, ⟨HP2.out.1⟩, ⟨below_set HB3.out GB.out⟩⟩
end Go.Proofs.YtneepokiioefgaaGreatDoor.Dec
set_option maxHeartbeats 32000000
namespace Go.Proofs.YtneepokiioefgaaGreatDoor.Dec
open Go.RowKit Go.Div PNat Go.Proofs.YtneepokiioefgaaGreatDoor.Pure YtneepokiioefgaaGreatDoorW.PrintWords YtneepokiioefgaaGreatDoorW.PrintLast YtneepokiioefgaaGreatDoorW.PrintMore
set_option maxRecDepth 100000 in
theorem r_Shr {w : World} {v : Value} {a : Nat} (h0 : Nm w v a) (fa : Fit a) (m : Nat) (hm : m < 64000) :
  Calls Tryz.prog 73 #[v, .int .i64 (-(m : Int))] w fun e w' => ∃ r, e = .returned (.tuple #[r, .int .i64 0]) ∧ Nm w' r (a / 2 ^ m) ∧ Below w.heap.size w w' := by
 have L0 := md_ (r_large h0 fa)
 have T0 := md_ (r_trimmed h0)
 obtain ⟨A, c, rfl, hlc, hC, _⟩ := h0.open
 obtain ⟨la, hla⟩ : ∃ l, Num.wordsN a = l := ⟨_, rfl⟩
 have hok := Num.wordsN_ok a
 have hval := Num.wordsN_val a
 have hlen : (Num.wordsN a).length ≤ 2000 := fa
 rw [hla] at hC hlc hok hval hlen L0 T0
 rw [hla]
 obtain ⟨n, hn⟩ : ∃ n, la.length = n := ⟨_, rfl⟩
 rw [hn] at hC hlc hlen L0 T0
 rw [hn]
 obtain ⟨q, hq⟩ : ∃ q, m / 32 = q := ⟨_, rfl⟩
 obtain ⟨r, hr⟩ : ∃ r, m % 32 = r := ⟨_, rfl⟩
 have hmr : 32 * q + r = m := by omega
 have HC := md_ hC
 have HOK := md_ hok
 have HN := md_ (show la.length = n ∧ n ≤ 2000 from ⟨hn, hlen⟩)
 have HV := md_ hval
 have HQ := md_ (show q ≤ 2000 ∧ r < 32 ∧ 32 * q + r = m by omega)
 have HB := md_ (Below.refl w.heap.size w)
 obtain ⟨mm, hmm⟩ : ∃ z : Int, (m : Int) = z := ⟨_, rfl⟩
 obtain ⟨mv, hmv⟩ : ∃ z : Int, -(m : Int) = z := ⟨_, rfl⟩
 have Z1 := wrp (x := (q : Int)) (y := (q : Int)) (by omega)
 have Z2 := wrp (x := -mv) (y := mm) (by omega)
 have x2 := decide_eq_false (show ¬ (64000 : Int) < mv by omega)
 have x3 := decide_eq_false (show ¬ (0 : Int) < mv by omega)
 have x5 := decide_eq_false (show ¬ mv ≤ -64000 by omega)
 have x4 : (0 : Int) ≤ (r : Int) := by omega
 have z1 : mm.tdiv 32 = (q : Int) := by rw [← hmm, ← hq]; exact (Int.ofNat_tdiv _ _).symm
 have z2 : mm.tmod 32 = (r : Int) := by rw [← hmm, ← hr]; exact (Int.ofNat_tmod _ _).symm
 rw [hmv]
 clear h0 fa hla hok hval hlen hn hlc hC hm hq hr hmr hmv hmm
 obtain ⟨z3, z4⟩ := Z1.out
 obtain ⟨z5, z6⟩ := Z2.out
 clear Z1 Z2
 go_enter Tryz.func73, Tryz.ntmps73
 go_wp2_with (first
  | (go_at_call 101; (with_reducible refine L0.out.mono ?_); rintro e w' ⟨rfl, hw⟩; obtain rfl := hw.symm)
  | (go_at_call 78; (with_reducible refine T0.out.mono ?_); rintro e w' ⟨rfl, hw⟩; obtain rfl := hw.symm))
 go_loopg [9, 10] n (fun kq v9 v10 wr => ∃ (k j : Nat) (x : List Int), v10 = .int .i64 (j : Int) ∧ Aside0 (q + k = j ∧ n ≤ kq + j ∧ k ≤ 2000 ∧ j ≤ 4000) ∧ Aside0 (Shr la q r k x) ∧ Aside0 (Kd.R (Kd.int .u32) 119 wr w.heap.size (fun _ => True) v9 x) ∧ Aside0 (Below w.heap.size w wr))
 case atStart => exact ⟨0, q, [], rfl, ⟨rfl, by omega, by omega, by have := HQ.out; omega⟩, ⟨shr_start la q r⟩, ⟨Kd.R_nil _ _ _ _ _⟩, HB⟩
 case round =>
  clear HB
  obtain ⟨k, j, x, rfl, HK, HS, HO, HB⟩ := hrel
  by_cases hjn : n ≤ j
  ·have hvx : Num.valN x = a / 2 ^ m := by
    have h := HK.out
    rw [shr_end HOK.out HS.out (by have := HN.out; omega), HV.out, HQ.out.2.2]
   have HN1 := md_ (fun (wq : World) (vv : Value) (hx : Kd.R (Kd.int .u32) 119 wq w.heap.size (fun _ => True) vv x) => r_NormV (V_of hx) HS.out.2.1 (by have := HS.out.1; have := HK.out; omega))
   rw [hvx] at HN1
   have c1 := decide_eq_false (show ¬ j < n by omega)
   clear hvx hjn
   go_wp2_with (go_at_call 77; (with_reducible refine (HN1.out _ _ HO.out).mono ?_); rintro e w' ⟨q1, rfl, hr, hb⟩; have hq1 := md_ hr; replace HB := bt_ HB hb; clear hb hr)
   go_ret2
   exact ⟨_, rfl, hq1.out, HB.out⟩
  ·have hil : j < la.length := by have := HN.out.1; omega
   have hkk := HK.out
   have hqq := HQ.out
   have hnl := HN.out
   obtain ⟨g7, g8⟩ := get_nat HOK.out hil
   obtain ⟨wi, hwi⟩ : ∃ z : Nat, (la[j]).toNat = z := ⟨_, rfl⟩
   have h2w := two_words HOK.out hil
   rw [hwi] at g7 g8 h2w
   obtain ⟨ad, hA, hz0⟩ := Kd.at_int HC.out (j : Int) (by omega) (by omega)
   subst hA
   have hrd : rd la (j : Int) = (wi : Int) := by
    unfold rd
    rw [Int.toNat_natCast, List.getD_eq_getElem?_getD, List.getElem?_eq_getElem hil]
    exact g7.symm
   rw [hrd, Int.toNat_natCast] at hz0
   have hz := pw_cell_below HB.out hz0
   obtain ⟨wn, hwn⟩ : ∃ z : Nat, (la[j + 1]?.getD 0).toNat = z := ⟨_, rfl⟩
   rw [hwn] at h2w
   obtain ⟨X, hX⟩ : ∃ z : Nat, wi + 4294967296 * wn = z := ⟨_, rfl⟩
   rw [hX] at h2w
   have hst := shr_step HOK.out (r := r) (by omega) HS.out (x := X) (by rw [hkk.1]; exact h2w)
   have g9 : wn < 4294967296 := by
    rw [← hwn]
    rcases Nat.lt_or_ge (j + 1) la.length with c | c
    ·rw [List.getElem?_eq_getElem c]
     exact (get_nat HOK.out c).2
    ·rw [List.getElem?_eq_none c]
     decide
   have hsh := shr64 X r (by omega)
   unfold shr at hsh
   rw [show IntKind.u64.bits = 64 from rfl, Int.toNat_natCast] at hsh
   obtain ⟨yv, hyv⟩ : ∃ z : Int, ((X / 2 ^ r % 4294967296 : Nat) : Int) = z := ⟨_, rfl⟩
   obtain ⟨sv, hsv⟩ : ∃ z : Int, ((X / 2 ^ r : Nat) : Int) = z := ⟨_, rfl⟩
   have e1 : IntKind.u32.wrap sv = yv := by rw [IntKind.wrap_u32]; omega
   have e2 : sv % 4294967296 = yv := by omega
   rw [hyv] at hst
   rw [hsv] at hsh
   have W1 := wrp (x := (j : Int) + 1) (y := ((j + 1 : Nat) : Int)) (by omega)
   have c1 : (0 : Int) ≤ (j : Int) := by omega
   have c2 : (j : Int) < (n : Int) := by omega
   have c3 : j < n := by omega
   obtain ⟨wv, hwv⟩ : ∃ y : Int, (wi : Int) = y := ⟨_, rfl⟩
   have e6 : IntKind.u64.wrap wv = wv := by rw [IntKind.wrap_u64]; omega
   have HS1 := md_ (show x.length ≤ 2000 by have := HS.out.1; omega)
   have HST := md_ hst
   have HK2 := md_ (show q + (k + 1) = j + 1 ∧ n ≤ gk - 1 + (j + 1) ∧ k + 1 ≤ 2000 ∧ j + 1 ≤ 4000 ∧ gk - 1 < gk by omega)
   by_cases hj1 : j + 1 < n
   ·have hn2 : (la[j + 1]?.getD 0) = (wn : Int) := by
     rw [List.getElem?_eq_getElem (show j + 1 < la.length by omega)] at hwn ⊢
     have := (get_nat HOK.out (show j + 1 < la.length by omega)).1
     show la[j + 1] = _
     rw [← this]
     congr 1
    have hz3 := Kd.foot_int HC.out ((j + 1 : Nat) : Int) (by omega) (by omega)
    have hrd2 : rd la ((j + 1 : Nat) : Int) = (wn : Int) := by
     unfold rd
     rw [Int.toNat_natCast, List.getD_eq_getElem?_getD]
     exact hn2
    rw [hrd2, Int.toNat_natCast] at hz3
    have hz4 := pw_cell_below HB.out hz3
    obtain ⟨nv, hnv⟩ : ∃ y : Int, (wn : Int) = y := ⟨_, rfl⟩
    obtain ⟨Xv, hXv⟩ : ∃ y : Int, (X : Int) = y := ⟨_, rfl⟩
    have b1 : bits .or .u64 wv (nv * 4294967296) = Xv := by
     rw [← hwv, ← hnv, show (wn : Int) * 4294967296 = ((wn * 4294967296 : Nat) : Int) by omega, u64_or_nat _ _ (by omega) (by omega), ← hXv, ← hX, Nat.or_comm]
     congr 1
     have p32 : (2 : Nat) ^ 32 = 4294967296 := rfl
     rw [nat_join 32 (wn * 4294967296) wi (by rw [p32]; exact Nat.mul_mod_left _ _) (by rw [p32]; exact g8)]
     omega
    have e7 : IntKind.u64.wrap nv = nv := by rw [IntKind.wrap_u64]; omega
    have e8 : IntKind.u64.wrap (nv * 4294967296) = nv * 4294967296 := by rw [IntKind.wrap_u64]; omega
    obtain ⟨J, hJ⟩ : ∃ z, j + 1 = z := ⟨_, rfl⟩
    have c4 : (0 : Int) ≤ (J : Int) := by omega
    have c5 : (J : Int) < (n : Int) := by omega
    have c6 : J < n := by omega
    rw [hJ] at hz4 W1 HK2
    rw [hwv] at hz
    rw [hnv] at hz4
    rw [hXv] at hsh
    clear hjn hil hkk hqq hnl g7 g8 hwi h2w hz0 hrd hwn hX hst g9 hyv hsv hwv HK HS hj1 hn2 hz3 hrd2 hnv hXv hJ
    obtain ⟨w1, w2⟩ := W1.out
    clear W1
    go_wp2_with (first
    | ((with_reducible refine gate_builtin (b := .append) (xs := #[.tmp 115, .tmp 121]) rfl ?_); at_builtin; refine Kd.R_append_rows (Kd.int .u32) (w0 := w) w.heap.size rfl (.tmp 115) (.tmp 121) 96 119 (.int .u32 0) 4 rfl Tryz.underlying96 info119 rfl (by decide) (by omega) _ x ([yv] : List Int) _ _ _ (fun _ => True) (fun _ => False) rfl rfl ?aO ?aR (fun _ _ h => h) (fun _ h => h.elim) ?aF ?aB ?aS ?aL ?_; (case aR => exact (Kd.V_reads' (one_V wr yv)).2.2); (case aB => exact below_alloc HB.out _); (case aF => exact (fun _ _ => trivial)); (case aO => exact Kd.R_alloc HO.out _); (case aS => exact below_size (below_alloc HB.out _)); (case aL => have := HS1.out; show (_ + 1) * 4 ≤ _; omega); intro v1 w5 ho hb hg hat; have HO2 := md_ ho; have HB2 := md_ hb; clear ho hb hg hat))
    go_roundg (gk - 1)
    case measure => exact HK2.out.2.2.2.2
    case rel => exact ⟨k + 1, J, x ++ [yv], by first | rfl | rw [w1] | rw [w2], ⟨HK2.out.1, HK2.out.2.1, HK2.out.2.2.1, HK2.out.2.2.2.1⟩, HST, HO2, HB2⟩
   ·have hwn0 : wn = 0 := by
     rw [← hwn, List.getElem?_eq_none (by omega)]
     rfl
    have hXw : (X : Int) = wv := by omega
    rw [hXw] at hsh
    rw [hwv] at hz
    obtain ⟨J, hJ⟩ : ∃ z, j + 1 = z := ⟨_, rfl⟩
    have c6 := decide_eq_false (show ¬ J < n by omega)
    rw [hJ] at W1 HK2
    clear hjn hil hkk hqq hnl g7 g8 hwi h2w hz0 hrd hwn hX hst g9 hyv hsv hwv HK HS hj1 hwn0 hXw hJ
    obtain ⟨w1, w2⟩ := W1.out
    clear W1
    go_wp2_with (first
    | ((with_reducible refine gate_builtin (b := .append) (xs := #[.tmp 115, .tmp 121]) rfl ?_); at_builtin; refine Kd.R_append_rows (Kd.int .u32) (w0 := w) w.heap.size rfl (.tmp 115) (.tmp 121) 96 119 (.int .u32 0) 4 rfl Tryz.underlying96 info119 rfl (by decide) (by omega) _ x ([yv] : List Int) _ _ _ (fun _ => True) (fun _ => False) rfl rfl ?aO ?aR (fun _ _ h => h) (fun _ h => h.elim) ?aF ?aB ?aS ?aL ?_; (case aR => exact (Kd.V_reads' (one_V wr yv)).2.2); (case aB => exact below_alloc HB.out _); (case aF => exact (fun _ _ => trivial)); (case aO => exact Kd.R_alloc HO.out _); (case aS => exact below_size (below_alloc HB.out _)); (case aL => have := HS1.out; show (_ + 1) * 4 ≤ _; omega); intro v1 w5 ho hb hg hat; have HO2 := md_ ho; have HB2 := md_ hb; clear ho hb hg hat))
    go_roundg (gk - 1)
    case measure => exact HK2.out.2.2.2.2
    case rel => exact ⟨k + 1, J, x ++ [yv], by first | rfl | rw [w1] | rw [w2], ⟨HK2.out.1, HK2.out.2.1, HK2.out.2.2.1, HK2.out.2.2.2.1⟩, HST, HO2, HB2⟩
end Go.Proofs.YtneepokiioefgaaGreatDoor.Dec
set_option maxHeartbeats 32000000
namespace Go.Proofs.YtneepokiioefgaaGreatDoor.Dec
open Go.RowKit Go.Flt Go.Read PDec Go.Proofs.YtneepokiioefgaaGreatDoor.Pure YtneepokiioefgaaGreatDoorW.PrintWords YtneepokiioefgaaGreatDoorW.PrintLast YtneepokiioefgaaGreatDoorW.PrintMore
set_option maxRecDepth 100000 in
theorem r3_IsNaN (w : World) (a : Nat) (ha : a < 18446744073709551616) : Calls Tryz.prog 54 #[.int .u64 (a : Int)] w fun e w' => e = .returned (.bool (fnan a)) ∧ w' = w := by
 have h := abs_and a ha
 obtain ⟨y, hy⟩ : ∃ y : Int, ((a % 9223372036854775808 : Nat) : Int) = y := ⟨_, rfl⟩
 obtain ⟨b, hb⟩ : ∃ b, fnan a = b := ⟨_, rfl⟩
 have h2 : decide (9218868437227405312 < y) = b := by
  rw [← hb]
  unfold fnan
  rw [Bool.eq_iff_iff]
  simp only [beq_iff_eq, decide_eq_true_iff]
  omega
 have h3 : decide (y = 9218868437227405312) = (y == 9218868437227405312) := (Bool.beq_eq_decide_eq _ _).symm
 obtain ⟨aa, haa⟩ : ∃ z : Int, (a : Int) = z := ⟨_, rfl⟩
 rw [hy, haa] at h
 rw [haa, hb]
 clear ha hy hb haa
 go_enter Tryz.func54, Tryz.ntmps54
 go_wp2
 go_ret
 exact ⟨by first | rfl | rw [h2], rfl⟩
set_option maxRecDepth 100000 in
theorem r3_IsInf (w : World) (a : Nat) (ha : a < 18446744073709551616) : Calls Tryz.prog 55 #[.int .u64 (a : Int)] w fun e w' => e = .returned (.bool (finf a)) ∧ w' = w := by
 have h := abs_and a ha
 obtain ⟨y, hy⟩ : ∃ y : Int, ((a % 9223372036854775808 : Nat) : Int) = y := ⟨_, rfl⟩
 obtain ⟨b, hb⟩ : ∃ b, finf a = b := ⟨_, rfl⟩
 have h2 : (y == 9218868437227405312) = b := by
  rw [← hb]
  unfold finf
  rw [Bool.eq_iff_iff]
  simp only [beq_iff_eq, decide_eq_true_iff]
  omega
 have h3 : decide (y = 9218868437227405312) = (y == 9218868437227405312) := (Bool.beq_eq_decide_eq _ _).symm
 obtain ⟨aa, haa⟩ : ∃ z : Int, (a : Int) = z := ⟨_, rfl⟩
 rw [hy, haa] at h
 rw [haa, hb]
 clear ha hy hb haa
 go_enter Tryz.func55, Tryz.ntmps55
 go_wp2
 go_ret
 exact ⟨by first | rfl | rw [h2], rfl⟩
theorem sign_and (a : Nat) (ha : a < 18446744073709551616) : a &&& 9223372036854775808 = if 9223372036854775808 ≤ a then 9223372036854775808 else 0 := by
 have hp : (9223372036854775808 : Nat) = 2 ^ 63 := rfl
 apply Nat.eq_of_testBit_eq
 intro i
 by_cases h : 9223372036854775808 ≤ a
 ·rw [if_pos h, hp, Nat.testBit_and, Nat.testBit_two_pow]
  by_cases c : 63 = i
  ·subst c
   rw [Nat.testBit_eq_decide_div_mod_eq, decide_eq_true (show a / 2 ^ 63 % 2 = 1 by omega)]
   rfl
  ·rw [decide_eq_false c, Bool.and_false]
 ·rw [if_neg h, hp, Nat.testBit_and, Nat.testBit_two_pow, Nat.zero_testBit]
  by_cases c : 63 = i
  ·subst c
   rw [Nat.testBit_eq_decide_div_mod_eq, decide_eq_false (show ¬ a / 2 ^ 63 % 2 = 1 by omega)]
   rfl
  ·rw [decide_eq_false c, Bool.and_false]
set_option maxRecDepth 100000 in
theorem r3_Minus (w : World) (a : Nat) (ha : a < 18446744073709551616) : Calls Tryz.prog 100 #[.int .u64 (a : Int)] w fun e w' => e = .returned (.bool (fneg a)) ∧ w' = w := by
 obtain ⟨y, hy⟩ : ∃ y : Int, ((if 9223372036854775808 ≤ a then 9223372036854775808 else 0 : Nat) : Int) = y := ⟨_, rfl⟩
 have h : bits .and .u64 (a : Int) 9223372036854775808 = y := by
  rw [show (9223372036854775808 : Int) = ((9223372036854775808 : Nat) : Int) from rfl, u64_and_nat _ _ ha (by decide), sign_and a ha]
  exact hy
 obtain ⟨b, hb⟩ : ∃ b, fneg a = b := ⟨_, rfl⟩
 have h2 : (y != 0) = b := by
  rw [← hb, ← hy]
  unfold fneg
  by_cases c : 9223372036854775808 ≤ a
  ·rw [if_pos c, decide_eq_true c]; rfl
  ·rw [if_neg c, decide_eq_false c]; rfl
 obtain ⟨aa, haa⟩ : ∃ z : Int, (a : Int) = z := ⟨_, rfl⟩
 rw [haa] at h
 rw [haa, hb]
 clear ha hy hb haa
 go_enter Tryz.func100, Tryz.ntmps100
 go_wp2
 go_ret
 exact ⟨by first | rfl | rw [h2], rfl⟩
set_option maxRecDepth 100000 in
theorem r3_Split_good (w : World) (a : Nat) (ha : a < 18446744073709551616) (h : ffin a = true) : Calls Tryz.prog 72 #[.int .u64 (a : Int)] w fun e w' => ∃ v, e = .returned (.tuple #[.bool (fneg a), v, .int .i64 (fpow a), .bool true]) ∧ Nm w' v (fmant a) ∧ Below w.heap.size w w' := by
 have HN := md_ (fun w => r3_IsNaN w a ha)
 have HI := md_ (fun w => r3_IsInf w a ha)
 have HM := md_ (fun w => r3_Minus w a ha)
 have hml : fmant a < 18446744073709551616 := by unfold fmant; split <;> omega
 have HO := md_ (fun w => r_Of w (fmant a) hml)
 have HB := md_ (Below.refl w.heap.size w)
 rw [ffin_iff, Bool.and_eq_true, Bool.not_eq_true', Bool.not_eq_true'] at h
 rw [h.1] at HN
 rw [h.2] at HI
 obtain ⟨neg, hneg⟩ : ∃ z, fneg a = z := ⟨_, rfl⟩
 rw [hneg] at HM
 rw [hneg]
 obtain ⟨aa, haa⟩ : ∃ z : Int, (a : Int) = z := ⟨_, rfl⟩
 obtain ⟨y, hy⟩ : ∃ z : Int, aa / 4503599627370496 = z := ⟨_, rfl⟩
 obtain ⟨x, hx⟩ : ∃ z : Int, ((fexp a : Nat) : Int) = z := ⟨_, rfl⟩
 obtain ⟨f, hf⟩ : ∃ z : Int, ((a % 4503599627370496 : Nat) : Int) = z := ⟨_, rfl⟩
 have hx0 : fexp a < 2048 := Nat.mod_lt _ (by decide)
 have hand : bits .and .u64 y 2047 = x := by
  rw [← hy, ← haa, ← hx, show ((a : Int) / 4503599627370496) = ((a / 4503599627370496 : Nat) : Int) by omega, show (2047 : Int) = ((2047 : Nat) : Int) from rfl, u64_and_nat _ _ (by omega) (by decide), show (2047 : Nat) = 2 ^ 11 - 1 from rfl, Nat.and_two_pow_sub_one_eq_mod]
  try rfl
 have hfr : bits .and .u64 aa 4503599627370495 = f := by
  rw [← haa, ← hf, show (4503599627370495 : Int) = ((4503599627370495 : Nat) : Int) from rfl, u64_and_nat _ _ ha (by decide), show (4503599627370495 : Nat) = 2 ^ 52 - 1 from rfl, Nat.and_two_pow_sub_one_eq_mod]
  try rfl
 have hor : bits .or .u64 f 4503599627370496 = f + 4503599627370496 := by
  rw [← hf, show (4503599627370496 : Int) = ((4503599627370496 : Nat) : Int) from rfl, u64_or_nat _ _ (by omega) (by decide), Nat.or_comm, nat_join 52 _ _ (by decide) (by have : (2 : Nat) ^ 52 = 4503599627370496 := rfl; omega)]
  omega
 have hw1 : IntKind.i64.wrap x = x := i64w_id (by omega) (by omega)
 have hw1' : wrap64 x = x := i64_id (by omega) (by omega)
 rw [haa] at HN HI HM
 rw [haa]
 by_cases c : fexp a = 0
 ·have hm : ((fmant a : Nat) : Int) = f := by unfold fmant; rw [if_pos c, hf]
  have hp : fpow a = -1074 := by unfold fpow; rw [if_pos c]
  have c1 : x = 0 := by omega
  rw [hm] at HO
  rw [hp]
  have c2 : (x == 0) = true := by rw [c1]; rfl
  have c3 : decide (x = 0) = true := decide_eq_true c1
  clear hor hx hx0 hf hneg haa hm hp c ha h hml c1
  go_enter Tryz.func72, Tryz.ntmps72
  go_wp2_with (first | (go_at_call 54; (with_reducible refine (HN.out _).mono ?_); rintro e w' ⟨rfl, rfl⟩) | (go_at_call 55; (with_reducible refine (HI.out _).mono ?_); rintro e w' ⟨rfl, rfl⟩) | (go_at_call 100; (with_reducible refine (HM.out _).mono ?_); rintro e w' ⟨rfl, rfl⟩) | (go_at_call 58; (with_reducible refine (HO.out _).mono ?_); rintro e w' ⟨r, rfl, hr, hb⟩; have hr' := md_ hr; replace HB := bt_ HB hb; clear hb hr))
  refine bodyPost_ret (res_four rfl _ _ _) rfl ?_
  exact ⟨_, rfl, hr'.out, HB.out⟩
 ·obtain ⟨m, hm'⟩ : ∃ z : Int, f + 4503599627370496 = z := ⟨_, rfl⟩
  have hm : ((fmant a : Nat) : Int) = m := by unfold fmant; rw [if_neg c]; omega
  obtain ⟨e, he'⟩ : ∃ z : Int, x - 1075 = z := ⟨_, rfl⟩
  have hp : fpow a = e := by unfold fpow; rw [if_neg c]; omega
  rw [hm] at HO
  rw [hp]
  rw [hm'] at hor
  have c1 : ¬ x = 0 := by omega
  have c2 : (x == 0) = false := by rw [beq_eq_false_iff_ne]; exact c1
  have c3 : decide (x = 0) = false := decide_eq_false c1
  have hw2 : IntKind.i64.wrap (x - 1075) = e := by rw [i64w_id (by omega) (by omega)]; exact he'
  have hw2' : wrap64 (x - 1075) = e := by rw [i64_id (by omega) (by omega)]; exact he'
  clear hx hx0 hf hneg haa hm hp c ha h hml hm' he'
  go_enter Tryz.func72, Tryz.ntmps72
  go_wp2_with (first | (go_at_call 54; (with_reducible refine (HN.out _).mono ?_); rintro e w' ⟨rfl, rfl⟩) | (go_at_call 55; (with_reducible refine (HI.out _).mono ?_); rintro e w' ⟨rfl, rfl⟩) | (go_at_call 100; (with_reducible refine (HM.out _).mono ?_); rintro e w' ⟨rfl, rfl⟩) | (go_at_call 58; (with_reducible refine (HO.out _).mono ?_); rintro e w' ⟨r, rfl, hr, hb⟩; have hr' := md_ hr; replace HB := bt_ HB hb; clear hb hr))
  refine bodyPost_ret (res_four rfl _ _ _) rfl ?_
  exact ⟨_, rfl, hr'.out, HB.out⟩
theorem fit_ten {k : Nat} (h : k ≤ 1600) : Fit (10 ^ k) := fit_lt (ten_lt k) (by omega)
set_option maxRecDepth 100000 in
theorem r4_Power (w : World) (n : Int) (hn : n ≤ 1500) : Calls Tryz.prog 103 #[.int .i64 n] w fun e w' => ∃ r, e = .returned r ∧ Nm w' r (10 ^ n.toNat) ∧ Below w.heap.size w w' := by
 have HO : Aside0 (∀ w, Calls Tryz.prog 58 #[.int .u64 1] w fun e w' => ∃ r, e = .returned r ∧ Nm w' r 1 ∧ Below w.heap.size w w') := ⟨fun w => r_Of w 1 (by decide)⟩
 have HT : Aside0 (∀ w, Calls Tryz.prog 58 #[.int .u64 10] w fun e w' => ∃ r, e = .returned r ∧ Nm w' r 10 ∧ Below w.heap.size w w') := ⟨fun w => r_Of w 10 (by decide)⟩
 have HM := md_ (fun (i : Nat) (hi : i ≤ 1500) (w : World) (v u : Value) (h : Nm w v (10 ^ i)) (k : Nm w u 10) => r_Mul h k (fit_ten (by omega)) (fit_lt (b := 4) (by decide) (by omega)) (show Fit (10 ^ (i + 1)) from fit_ten (by omega)))
 have HB := md_ (Below.refl w.heap.size w)
 have HNN := md_ hn
 clear hn
 go_enter Tryz.func103, Tryz.ntmps103
 go_wp2_with (go_at_call 58; (with_reducible refine (HO.out _).mono ?_); rintro e w' ⟨r, rfl, hr, hb⟩; have hr' := md_ hr; replace HB := bt_ HB hb; clear hb hr)
 go_loopg [3, 4] n.toNat (fun kq v3 v4 wr => ∃ (i : Nat), v4 = .int .i64 (i : Int) ∧ Aside0 (i + kq = n.toNat) ∧ Aside0 (Nm wr v3 (10 ^ i)) ∧ Aside0 (Below w.heap.size w wr))
 case atStart => exact ⟨0, rfl, ⟨by omega⟩, hr', HB⟩
 case round =>
  clear HB hr'
  obtain ⟨i, rfl, HQ, HV, HB⟩ := hrel
  by_cases hlt : (i : Int) < n
  ·have c1 := decide_eq_true hlt
   obtain ⟨j, rfl⟩ : ∃ j, gk = j + 1 := ⟨gk - 1, by have := HQ.out; omega⟩
   have HQ2 := md_ (show i + 1 + j = n.toNat by have := HQ.out; omega)
   have q1 : wrap64 ((i : Int) + 1) = ((i + 1 : Nat) : Int) := by have := HNN.out; rw [i64_id (by omega) (by omega)]; omega
   have q2 : IntKind.i64.wrap ((i : Int) + 1) = ((i + 1 : Nat) : Int) := (i64_w _).trans q1
   have HMi := md_ (HM.out i (by have := HNN.out; omega))
   clear hlt
   go_wp2_with (first | (go_at_call 58; (with_reducible refine (HT.out _).mono ?_); rintro e w' ⟨r, rfl, hr, hb⟩; have hr2 := md_ hr; replace HV := md_ (HV.out.below hb); replace HB := bt_ HB hb; clear hb hr) | (go_at_call 102; (refine (HMi.out _ _ _ HV.out hr2.out).mono ?_); rintro e w' ⟨r3, rfl, hr, hb⟩; have hr3 := md_ hr; replace HB := bt_ HB hb; clear hb hr))
   go_roundg j
   case measure => omega
   case rel => exact ⟨i + 1, by first | rfl | (rw [q1]) | (rw [q2]), HQ2, ⟨by rw [Nat.pow_succ]; exact hr3.out⟩, HB⟩
  ·have c1 := decide_eq_false hlt
   have hi : i = n.toNat := by have := HQ.out; omega
   subst hi
   clear hlt
   go_wp2
   go_ret
   exact ⟨_, rfl, HV.out, HB.out⟩
end Go.Proofs.YtneepokiioefgaaGreatDoor.Dec
set_option maxHeartbeats 32000000
namespace Go.Flt
def rndQ (L R : Nat) : Nat := if R < 2 * (L % R) ∨ (2 * (L % R) = R ∧ L / R % 2 = 1) then L / R + 1 else L / R
theorem near_rnd (m : Nat) (e k : Int) : nearN m e k = rndQ (lhs m e k) (rhs e k) := rfl
end Go.Flt
namespace Go.Proofs.YtneepokiioefgaaGreatDoor.Dec
open Go.RowKit Go.Flt Go.Proofs.YtneepokiioefgaaGreatDoor.Pure YtneepokiioefgaaGreatDoorW.PrintWords YtneepokiioefgaaGreatDoorW.PrintLast YtneepokiioefgaaGreatDoorW.PrintMore
set_option maxRecDepth 100000 in
theorem r4_ge (w : World) {v u : Value} {N D B : Nat} (hB : B ≤ 1100) (hv : Nm w v N) (hu : Nm w u D) (hN : N < 2 ^ B) (hD : D < 2 ^ B) (k : Int) (hk : -450 ≤ k) (hk2 : k ≤ 450) :
  Calls Tryz.prog 75 #[v, u, .int .i64 k] w fun x w' => x = .returned (.bool (decide (D * 10 ^ k.toNat ≤ N * 10 ^ (-k).toNat))) ∧ Below w.heap.size w w' := by
 obtain ⟨nk, hnk⟩ : ∃ z, -k = z := ⟨_, rfl⟩
 have T1 := md_ (fun w => r4_Power w k (by omega))
 have T2 := md_ (fun w => r4_Power w nk (by omega))
 have b1 := ten_lt k.toNat
 have b2 := ten_lt nk.toNat
 have d1 := mul_lt_pow hD b1
 have d2 := mul_lt_pow hN b2
 have fN : Fit N := fit_lt hN (by omega)
 have fD : Fit D := fit_lt hD (by omega)
 have f1 : Fit (D * 10 ^ k.toNat) := fit_lt d1 (by omega)
 have f2 : Fit (N * 10 ^ nk.toNat) := fit_lt d2 (by omega)
 have X1 := md_ (fun (w : World) (v u : Value) (h : Nm w v D) (g : Nm w u (10 ^ k.toNat)) => r_Mul h g fD (fit_lt b1 (by omega)) f1)
 have X2 := md_ (fun (w : World) (v u : Value) (h : Nm w v N) (g : Nm w u (10 ^ nk.toNat)) => r_Mul h g fN (fit_lt b2 (by omega)) f2)
 have CC := md_ (fun (w : World) (v u : Value) (h : Nm w v (N * 10 ^ nk.toNat)) (g : Nm w u (D * 10 ^ k.toNat)) => r_Compare h g f2 f1)
 rw [hnk]
 have w1 := (wrp (x := -k) (y := nk) (by omega)).out.1
 have w2 := (i64_w _).trans w1
 obtain ⟨p1, hp1⟩ : ∃ z, 10 ^ k.toNat = z := ⟨_, rfl⟩
 obtain ⟨p2, hp2⟩ : ∃ z, 10 ^ nk.toNat = z := ⟨_, rfl⟩
 have hone1 : k < 0 → p1 = 1 := fun h => by rw [← hp1, show k.toNat = 0 by omega]
 have hone2 : 0 ≤ k → p2 = 1 := fun h => by rw [← hp2, show nk.toNat = 0 by omega]
 rw [hp1] at T1 X1 CC ⊢
 rw [hp2] at T2 X2 CC ⊢
 obtain ⟨cc, hcc⟩ : ∃ z, Num.cmpN (N * p2) (D * p1) = z := ⟨_, rfl⟩
 have hres : decide (0 ≤ cc) = decide (D * p1 ≤ N * p2) := by
  rw [← hcc, decide_eq_decide]
  unfold Num.cmpN
  split
  ·omega
  ·split <;> omega
 rw [hcc] at CC
 obtain ⟨res, hrr⟩ : ∃ z, decide (D * p1 ≤ N * p2) = z := ⟨_, rfl⟩
 rw [hrr] at hres ⊢
 obtain ⟨L, hL⟩ : ∃ z, N * p2 = z := ⟨_, rfl⟩
 obtain ⟨R, hR⟩ : ∃ z, D * p1 = z := ⟨_, rfl⟩
 rw [hL] at CC X2
 rw [hR] at CC X1
 have HB := md_ (Below.refl w.heap.size w)
 have hv0 := md_ hv
 have hu0 := md_ hu
 by_cases c : 0 ≤ k
 ·have c1 := decide_eq_true c
  have h2 := hone2 c
  rw [h2, Nat.mul_one] at hL
  subst hL
  clear hv hu hN hD hk hk2 hnk b1 b2 d1 d2 fN fD f1 f2 hp1 hp2 hone1 hone2 hrr hcc hR h2 c
  go_enter Tryz.func75, Tryz.ntmps75
  go_wp2_with (first | (go_at_call 103; (with_reducible refine (T1.out _).mono ?_); rintro e w' ⟨r1, rfl, hr, hb⟩; have n0_ := md_ (below_step HB.out hb); have h1 := md_ hr; have k0_ := md_ (hv0.out.below hb); have k1_ := md_ (hu0.out.below hb); clear HB hb hr hv0 hu0; have HB := n0_; have hv0 := k0_; have hu0 := k1_; clear n0_ k0_ k1_) | (go_at_call 102; (with_reducible refine (X1.out _ _ _ hu0.out h1.out).mono ?_); rintro e w' ⟨r2, rfl, hr, hb⟩; have n0_ := md_ (below_step HB.out hb); have h2 := md_ hr; have k0_ := md_ (hv0.out.below hb); clear HB hb hr hv0; have HB := n0_; have hv0 := k0_; clear n0_ k0_) | (go_at_call 104; (with_reducible refine (CC.out _ _ _ hv0.out h2.out).mono ?_); rintro e w' ⟨rfl, hb⟩; have n0_ := md_ (below_step HB.out hb); have hr := 0; clear HB hb hr ; have HB := n0_; clear n0_))
  go_ret
  exact ⟨by first | rfl | rw [hres], HB.out⟩
 ·have c1 := decide_eq_false c
  have h2 := hone1 (by omega)
  rw [h2, Nat.mul_one] at hR
  subst hR
  clear hv hu hN hD hk hk2 hnk b1 b2 d1 d2 fN fD f1 f2 hp1 hp2 hone1 hone2 hrr hcc hL h2 c
  go_enter Tryz.func75, Tryz.ntmps75
  go_wp2_with (first | (go_at_call 103; (with_reducible refine (T2.out _).mono ?_); rintro e w' ⟨r1, rfl, hr, hb⟩; have n0_ := md_ (below_step HB.out hb); have h1 := md_ hr; have k0_ := md_ (hv0.out.below hb); have k1_ := md_ (hu0.out.below hb); clear HB hb hr hv0 hu0; have HB := n0_; have hv0 := k0_; have hu0 := k1_; clear n0_ k0_ k1_) | (go_at_call 102; (with_reducible refine (X2.out _ _ _ hv0.out h1.out).mono ?_); rintro e w' ⟨r2, rfl, hr, hb⟩; have n0_ := md_ (below_step HB.out hb); have h2 := md_ hr; have k0_ := md_ (hu0.out.below hb); clear HB hb hr hu0; have HB := n0_; have hu0 := k0_; clear n0_ k0_) | (go_at_call 104; (with_reducible refine (CC.out _ _ _ h2.out hu0.out).mono ?_); rintro e w' ⟨rfl, hb⟩; have n0_ := md_ (below_step HB.out hb); have hr := 0; clear HB hb hr ; have HB := n0_; clear n0_))
  go_ret
  exact ⟨by first | rfl | rw [hres], HB.out⟩
theorem low_par (q : Nat) : bits .and .u64 ((q % 18446744073709551616 : Nat) : Int) 1 = ((q % 2 : Nat) : Int) := by
 rw [show (1 : Int) = ((1 : Nat) : Int) from rfl, u64_and_nat _ _ (Nat.mod_lt _ (by decide)) (by decide), Nat.and_one_is_mod]
 omega
set_option maxRecDepth 100000 in
theorem r4_scaled (w : World) {v u : Value} {N D B : Nat} (hB : B ≤ 1100) (hv : Nm w v N) (hu : Nm w u D) (hN : N < 2 ^ B) (hD : D < 2 ^ B) (hD0 : 0 < D) (k : Int) (hk : -450 ≤ k) (hk2 : k ≤ 450) :
  Calls Tryz.prog 76 #[v, u, .int .i64 (-k)] w fun x w' => x = .returned (.string ⟨(Num.textN (rndQ (N * 10 ^ (-k).toNat) (D * 10 ^ k.toNat))).toArray⟩) ∧ Below w.heap.size w w' := by
 obtain ⟨nk, hnk⟩ : ∃ z, -k = z := ⟨_, rfl⟩
 have T1 := md_ (fun w => r4_Power w k (by omega))
 have T2 := md_ (fun w => r4_Power w nk (by omega))
 have b1 := ten_lt k.toNat
 have b2 := ten_lt nk.toNat
 have d1 := mul_lt_pow hD b1
 have d2 := mul_lt_pow hN b2
 have fN : Fit N := fit_lt hN (by omega)
 have fD : Fit D := fit_lt hD (by omega)
 have f1 : Fit (D * 10 ^ k.toNat) := fit_lt d1 (by omega)
 have f2 : Fit (N * 10 ^ nk.toNat) := fit_lt d2 (by omega)
 have X1 := md_ (fun (w : World) (v u : Value) (h : Nm w v D) (g : Nm w u (10 ^ k.toNat)) => r_Mul h g fD (fit_lt b1 (by omega)) f1)
 have X2 := md_ (fun (w : World) (v u : Value) (h : Nm w v N) (g : Nm w u (10 ^ nk.toNat)) => r_Mul h g fN (fit_lt b2 (by omega)) f2)
 rw [hnk]
 have w1 := (wrp (x := -nk) (y := k) (by omega)).out.1
 have w2 := (i64_w _).trans w1
 obtain ⟨p1, hp1⟩ : ∃ z, 10 ^ k.toNat = z := ⟨_, rfl⟩
 obtain ⟨p2, hp2⟩ : ∃ z, 10 ^ nk.toNat = z := ⟨_, rfl⟩
 have hone1 : k ≤ 0 → p1 = 1 := fun h => by rw [← hp1, show k.toNat = 0 by omega]
 have hone2 : 0 ≤ k → p2 = 1 := fun h => by rw [← hp2, show nk.toNat = 0 by omega]
 have hp1p : 0 < p1 := by rw [← hp1]; exact Nat.pow_pos (by decide)
 rw [hp1] at T1 X1 d1 f1 ⊢
 rw [hp2] at T2 X2 d2 f2 ⊢
 obtain ⟨L, hL⟩ : ∃ z, N * p2 = z := ⟨_, rfl⟩
 obtain ⟨R, hR⟩ : ∃ z, D * p1 = z := ⟨_, rfl⟩
 have hpos : 0 < R := by rw [← hR]; exact Nat.mul_pos hD0 hp1p
 rw [hL] at X2 d2 f2 ⊢
 rw [hR] at X1 d1 f1 ⊢
 have hN : rndQ L R = if R < 2 * (L % R) ∨ (2 * (L % R) = R ∧ L / R % 2 = 1) then L / R + 1 else L / R := rfl
 have f3 : Fit (R * 4294967296) := by
  have h : R * 4294967296 < 2 ^ (B + (4 * k.toNat + 1)) * 2 ^ 32 := Nat.mul_lt_mul_of_pos_right d1 (by decide)
  rw [← Nat.pow_add] at h
  exact fit_lt h (by omega)
 have DD := md_ (fun (w : World) (v u : Value) (h : Nm w v L) (g : Nm w u R) => r_Divide h g f2 f3 (Nat.ne_of_gt hpos))
 obtain ⟨Q, hQ⟩ : ∃ z, L / R = z := ⟨_, rfl⟩
 obtain ⟨r, hr⟩ : ∃ z, L % R = z := ⟨_, rfl⟩
 have hrl : r < R := by rw [← hr]; exact Nat.mod_lt _ hpos
 have hql : Q ≤ L := by rw [← hQ]; exact Nat.div_le_self _ _
 rw [hQ, hr] at DD hN
 have fq : Fit Q := fit_le f2 hql
 have fr : Fit r := fit_le f1 (by omega)
 have fr2 : Fit (r + r) := fit_le f3 (by omega)
 have fq1 : Fit (Q + 1) := by
  have h : Q + 1 < 2 ^ (B + (4 * nk.toNat + 1) + 1) := by
   have := Nat.two_pow_pos (B + (4 * nk.toNat + 1))
   rw [Nat.pow_succ]; omega
  exact fit_lt h (by omega)
 have A1 := md_ (fun (w : World) (v : Value) (h : Nm w v r) => r_Add h h fr fr)
 have CC := md_ (fun (w : World) (v u : Value) (h : Nm w v (r + r)) (g : Nm w u R) => r_Compare h g fr2 f1)
 have A2 := md_ (fun (w : World) (v u : Value) (h : Nm w v Q) (g : Nm w u 1) => r_Add h g fq (fit_lt (b := 1) (by decide) (by omega)))
 have LW := md_ (fun (w : World) (v : Value) (h : Nm w v Q) => r_Low h fq)
 have HO : Aside0 (∀ w, Calls Tryz.prog 58 #[.int .u64 1] w fun e w' => ∃ r, e = .returned r ∧ Nm w' r 1 ∧ Below w.heap.size w w') := ⟨fun w => r_Of w 1 (by decide)⟩
 have TX0 := md_ (fun (w : World) (v : Value) (h : Nm w v Q) => r_Text h fq)
 have TX1 := md_ (fun (w : World) (v : Value) (h : Nm w v (Q + 1)) => r_Text h fq1)
 obtain ⟨cc, hcc⟩ : ∃ z, Num.cmpN (r + r) R = z := ⟨_, rfl⟩
 have hcc3 : (R < 2 * r ∧ cc = 1) ∨ (2 * r = R ∧ cc = 0) ∨ (2 * r < R ∧ cc = -1) := by
  rw [← hcc]
  unfold Num.cmpN
  split
  ·omega
  ·split <;> omega
 rw [hcc] at CC
 have hpar := low_par Q
 obtain ⟨lq, hlq⟩ : ∃ z : Int, ((Q % 18446744073709551616 : Nat) : Int) = z := ⟨_, rfl⟩
 rw [hlq] at hpar LW
 have hup : (R < 2 * r ∨ (2 * r = R ∧ Q % 2 = 1)) → rndQ L R = Q + 1 := fun h => by rw [hN, if_pos h]
 have hno : ¬ (R < 2 * r ∨ (2 * r = R ∧ Q % 2 = 1)) → rndQ L R = Q := fun h => by rw [hN, if_neg h]
 have HB := md_ (Below.refl w.heap.size w)
 have hv0 := md_ hv
 have hu0 := md_ hu
 have hko : (0 ≤ nk ∧ R = D) ∨ (nk < 0 ∧ L = N) := by
  rcases Int.lt_or_le nk 0 with c | c
  ·exact .inr ⟨c, by rw [← hL, hone2 (by omega), Nat.mul_one]⟩
  ·exact .inl ⟨c, by rw [← hR, hone1 (by omega), Nat.mul_one]⟩
 obtain ⟨rq, hrq⟩ : ∃ z, rndQ L R = z := ⟨_, rfl⟩
 rw [hrq] at hup hno ⊢
 clear hv hu hD hk hk2 hnk b1 b2 d1 d2 fN fD f1 f2 f3 hp1 hp2 hone1 hone2 hcc hN hQ hr hql fq fr fr2 fq1 hrl hL hR hpos hp1p hD0 hlq hrq
 rcases hko with ⟨c, hRD⟩ | ⟨c, hLN⟩
 ·have c1 := decide_eq_true c
  subst hRD
  clear c
  go_enter Tryz.func76, Tryz.ntmps76
  go_upto_region 4 with (first | (go_at_call 103; (with_reducible refine (T2.out _).mono ?_); rintro e w' ⟨r1, rfl, hr, hb⟩; have n0_ := md_ (below_step HB.out hb); have h1 := md_ hr; have k0_ := md_ (hv0.out.below hb); have k1_ := md_ (hu0.out.below hb); clear HB hb hr hv0 hu0; have HB := n0_; have hv0 := k0_; have hu0 := k1_; clear n0_ k0_ k1_) | (go_at_call 102; (with_reducible refine (X2.out _ _ _ hv0.out h1.out).mono ?_); rintro e w' ⟨r2, rfl, hr, hb⟩; have n0_ := md_ (below_step HB.out hb); have h2 := md_ hr; have k0_ := md_ (hu0.out.below hb); clear HB hb hr hu0; have HB := n0_; have hu0 := k0_; clear n0_ k0_))
  go_upto_region 6 with (first | (go_at_call 105; (with_reducible refine (DD.out _ _ _ h2.out hu0.out).mono ?_); rintro e w' ⟨rq, rr, rfl, hr, hr2, hb⟩; have n0_ := md_ (below_step HB.out hb); have hq := md_ hr; have hrm := md_ hr2; clear hr2; have k0_ := md_ (hu0.out.below hb); clear HB hb hr hu0; have HB := n0_; have hu0 := k0_; clear n0_ k0_) | (go_at_call 106; (with_reducible refine (A1.out _ _ hrm.out).mono ?_); rintro e w' ⟨r3, rfl, hr, hb⟩; have n0_ := md_ (below_step HB.out hb); have hrr := md_ hr; have k0_ := md_ (hq.out.below hb); have k1_ := md_ (hu0.out.below hb); clear HB hb hr hq hu0; have HB := n0_; have hq := k0_; have hu0 := k1_; clear n0_ k0_ k1_) | (go_at_call 104; (with_reducible refine (CC.out _ _ _ hrr.out hu0.out).mono ?_); rintro e w' ⟨rfl, hb⟩; have n0_ := md_ (below_step HB.out hb); have hr := 0; have k0_ := md_ (hq.out.below hb); clear HB hb hr hq; have HB := n0_; have hq := k0_; clear n0_ k0_) | (go_at_call 107; (with_reducible refine (LW.out _ _ hq.out).mono ?_); rintro e w' ⟨rfl, hw⟩; obtain rfl := hw.symm))
  rcases hcc3 with ⟨hc1, hc2⟩ | ⟨hc1, hc2⟩ | ⟨hc1, hc2⟩
  ·have hb := hup (by omega)
   subst hc2
   clear hup hno hc1
   subst hb
   go_wp2_with (first | (go_at_call 107; (with_reducible refine (LW.out _ _ hq.out).mono ?_); rintro e w' ⟨rfl, hw⟩; obtain rfl := hw.symm) | (go_at_call 58; (with_reducible refine (HO.out _).mono ?_); rintro e w' ⟨r5, rfl, hr, hb⟩; have n0_ := md_ (below_step HB.out hb); have h1 := md_ hr; have k0_ := md_ (hq.out.below hb); clear HB hb hr hq; have HB := n0_; have hq := k0_; clear n0_ k0_) | (go_at_call 106; (with_reducible refine (A2.out _ _ _ hq.out h1.out).mono ?_); rintro e w' ⟨r6, rfl, hr, hb⟩; have n0_ := md_ (below_step HB.out hb); have hq1 := md_ hr; clear HB hb hr ; have HB := n0_; clear n0_) | (go_at_call 57; (with_reducible refine (TX1.out _ _ hq1.out).mono ?_); rintro e w' ⟨rfl, hb⟩; have n0_ := md_ (below_step HB.out hb); have hr := 0; clear HB hb hr ; have HB := n0_; clear n0_))
   go_ret
   exact ⟨rfl, HB.out⟩
  ·rcases Nat.mod_two_eq_zero_or_one Q with hq2 | hq2
   ·have hb := hno (by omega)
    rw [hq2] at hpar
    subst hc2
    clear hup hno hc1 hq2
    subst hb
    go_wp2_with (first | (go_at_call 107; (with_reducible refine (LW.out _ _ hq.out).mono ?_); rintro e w' ⟨rfl, hw⟩; obtain rfl := hw.symm) | (go_at_call 57; (with_reducible refine (TX0.out _ _ hq.out).mono ?_); rintro e w' ⟨rfl, hb⟩; have n0_ := md_ (below_step HB.out hb); have hr := 0; clear HB hb hr ; have HB := n0_; clear n0_))
    go_ret
    exact ⟨rfl, HB.out⟩
   ·have hb := hup (by omega)
    rw [hq2] at hpar
    subst hc2
    clear hup hno hc1 hq2
    subst hb
    go_wp2_with (first | (go_at_call 107; (with_reducible refine (LW.out _ _ hq.out).mono ?_); rintro e w' ⟨rfl, hw⟩; obtain rfl := hw.symm) | (go_at_call 58; (with_reducible refine (HO.out _).mono ?_); rintro e w' ⟨r5, rfl, hr, hb⟩; have n0_ := md_ (below_step HB.out hb); have h1 := md_ hr; have k0_ := md_ (hq.out.below hb); clear HB hb hr hq; have HB := n0_; have hq := k0_; clear n0_ k0_) | (go_at_call 106; (with_reducible refine (A2.out _ _ _ hq.out h1.out).mono ?_); rintro e w' ⟨r6, rfl, hr, hb⟩; have n0_ := md_ (below_step HB.out hb); have hq1 := md_ hr; clear HB hb hr ; have HB := n0_; clear n0_) | (go_at_call 57; (with_reducible refine (TX1.out _ _ hq1.out).mono ?_); rintro e w' ⟨rfl, hb⟩; have n0_ := md_ (below_step HB.out hb); have hr := 0; clear HB hb hr ; have HB := n0_; clear n0_))
    go_ret
    exact ⟨rfl, HB.out⟩
  ·have hb := hno (by omega)
   subst hc2
   clear hup hno hc1
   subst hb
   go_wp2_with (first | (go_at_call 107; (with_reducible refine (LW.out _ _ hq.out).mono ?_); rintro e w' ⟨rfl, hw⟩; obtain rfl := hw.symm) | (go_at_call 57; (with_reducible refine (TX0.out _ _ hq.out).mono ?_); rintro e w' ⟨rfl, hb⟩; have n0_ := md_ (below_step HB.out hb); have hr := 0; clear HB hb hr ; have HB := n0_; clear n0_))
   go_ret
   exact ⟨rfl, HB.out⟩
 ·have c1 := decide_eq_false (show ¬ 0 ≤ nk by omega)
  subst hLN
  clear c
  go_enter Tryz.func76, Tryz.ntmps76
  go_upto_region 4 with (first | (go_at_call 103; (with_reducible refine (T1.out _).mono ?_); rintro e w' ⟨r1, rfl, hr, hb⟩; have n0_ := md_ (below_step HB.out hb); have h1 := md_ hr; have k0_ := md_ (hv0.out.below hb); have k1_ := md_ (hu0.out.below hb); clear HB hb hr hv0 hu0; have HB := n0_; have hv0 := k0_; have hu0 := k1_; clear n0_ k0_ k1_) | (go_at_call 102; (with_reducible refine (X1.out _ _ _ hu0.out h1.out).mono ?_); rintro e w' ⟨r2, rfl, hr, hb⟩; have n0_ := md_ (below_step HB.out hb); have h2 := md_ hr; have k0_ := md_ (hv0.out.below hb); clear HB hb hr hv0; have HB := n0_; have hv0 := k0_; clear n0_ k0_))
  go_upto_region 6 with (first | (go_at_call 105; (with_reducible refine (DD.out _ _ _ hv0.out h2.out).mono ?_); rintro e w' ⟨rq, rr, rfl, hr, hr2, hb⟩; have n0_ := md_ (below_step HB.out hb); have hq := md_ hr; have hrm := md_ hr2; clear hr2; have k0_ := md_ (h2.out.below hb); clear HB hb hr h2; have HB := n0_; have h2 := k0_; clear n0_ k0_) | (go_at_call 106; (with_reducible refine (A1.out _ _ hrm.out).mono ?_); rintro e w' ⟨r3, rfl, hr, hb⟩; have n0_ := md_ (below_step HB.out hb); have hrr := md_ hr; have k0_ := md_ (hq.out.below hb); have k1_ := md_ (h2.out.below hb); clear HB hb hr hq h2; have HB := n0_; have hq := k0_; have h2 := k1_; clear n0_ k0_ k1_) | (go_at_call 104; (with_reducible refine (CC.out _ _ _ hrr.out h2.out).mono ?_); rintro e w' ⟨rfl, hb⟩; have n0_ := md_ (below_step HB.out hb); have hr := 0; have k0_ := md_ (hq.out.below hb); clear HB hb hr hq; have HB := n0_; have hq := k0_; clear n0_ k0_) | (go_at_call 107; (with_reducible refine (LW.out _ _ hq.out).mono ?_); rintro e w' ⟨rfl, hw⟩; obtain rfl := hw.symm))
  rcases hcc3 with ⟨hc1, hc2⟩ | ⟨hc1, hc2⟩ | ⟨hc1, hc2⟩
  ·have hb := hup (by omega)
   subst hc2
   clear hup hno hc1
   subst hb
   go_wp2_with (first | (go_at_call 107; (with_reducible refine (LW.out _ _ hq.out).mono ?_); rintro e w' ⟨rfl, hw⟩; obtain rfl := hw.symm) | (go_at_call 58; (with_reducible refine (HO.out _).mono ?_); rintro e w' ⟨r5, rfl, hr, hb⟩; have n0_ := md_ (below_step HB.out hb); have h1 := md_ hr; have k0_ := md_ (hq.out.below hb); clear HB hb hr hq; have HB := n0_; have hq := k0_; clear n0_ k0_) | (go_at_call 106; (with_reducible refine (A2.out _ _ _ hq.out h1.out).mono ?_); rintro e w' ⟨r6, rfl, hr, hb⟩; have n0_ := md_ (below_step HB.out hb); have hq1 := md_ hr; clear HB hb hr ; have HB := n0_; clear n0_) | (go_at_call 57; (with_reducible refine (TX1.out _ _ hq1.out).mono ?_); rintro e w' ⟨rfl, hb⟩; have n0_ := md_ (below_step HB.out hb); have hr := 0; clear HB hb hr ; have HB := n0_; clear n0_))
   go_ret
   exact ⟨rfl, HB.out⟩
  ·rcases Nat.mod_two_eq_zero_or_one Q with hq2 | hq2
   ·have hb := hno (by omega)
    rw [hq2] at hpar
    subst hc2
    clear hup hno hc1 hq2
    subst hb
    go_wp2_with (first | (go_at_call 107; (with_reducible refine (LW.out _ _ hq.out).mono ?_); rintro e w' ⟨rfl, hw⟩; obtain rfl := hw.symm) | (go_at_call 57; (with_reducible refine (TX0.out _ _ hq.out).mono ?_); rintro e w' ⟨rfl, hb⟩; have n0_ := md_ (below_step HB.out hb); have hr := 0; clear HB hb hr ; have HB := n0_; clear n0_))
    go_ret
    exact ⟨rfl, HB.out⟩
   ·have hb := hup (by omega)
    rw [hq2] at hpar
    subst hc2
    clear hup hno hc1 hq2
    subst hb
    go_wp2_with (first | (go_at_call 107; (with_reducible refine (LW.out _ _ hq.out).mono ?_); rintro e w' ⟨rfl, hw⟩; obtain rfl := hw.symm) | (go_at_call 58; (with_reducible refine (HO.out _).mono ?_); rintro e w' ⟨r5, rfl, hr, hb⟩; have n0_ := md_ (below_step HB.out hb); have h1 := md_ hr; have k0_ := md_ (hq.out.below hb); clear HB hb hr hq; have HB := n0_; have hq := k0_; clear n0_ k0_) | (go_at_call 106; (with_reducible refine (A2.out _ _ _ hq.out h1.out).mono ?_); rintro e w' ⟨r6, rfl, hr, hb⟩; have n0_ := md_ (below_step HB.out hb); have hq1 := md_ hr; clear HB hb hr ; have HB := n0_; clear n0_) | (go_at_call 57; (with_reducible refine (TX1.out _ _ hq1.out).mono ?_); rintro e w' ⟨rfl, hb⟩; have n0_ := md_ (below_step HB.out hb); have hr := 0; clear HB hb hr ; have HB := n0_; clear n0_))
    go_ret
    exact ⟨rfl, HB.out⟩
  ·have hb := hno (by omega)
   subst hc2
   clear hup hno hc1
   subst hb
   go_wp2_with (first | (go_at_call 107; (with_reducible refine (LW.out _ _ hq.out).mono ?_); rintro e w' ⟨rfl, hw⟩; obtain rfl := hw.symm) | (go_at_call 57; (with_reducible refine (TX0.out _ _ hq.out).mono ?_); rintro e w' ⟨rfl, hb⟩; have n0_ := md_ (below_step HB.out hb); have hr := 0; clear HB hb hr ; have HB := n0_; clear n0_))
   go_ret
   exact ⟨rfl, HB.out⟩
end Go.Proofs.YtneepokiioefgaaGreatDoor.Dec
set_option maxHeartbeats 32000000
namespace Go.Proofs.YtneepokiioefgaaGreatDoor.Dec
open Go.RowKit Go.Flt Go.Read Go.Proofs.YtneepokiioefgaaGreatDoor.Pure YtneepokiioefgaaGreatDoorW.PrintWords YtneepokiioefgaaGreatDoorW.PrintLast YtneepokiioefgaaGreatDoorW.PrintMore
theorem r_Sh {w : World} {v : Value} {a : Nat} (h0 : Nm w v a) (fa : Fit a) (m : Int) (hm0 : 0 ≤ m) (hm : m ≤ 63000) (hf : Fit (a * 2 ^ m.toNat)) :
  Calls Tryz.prog 73 #[v, .int .i64 m] w fun e w' => ∃ r, e = .returned (.tuple #[r, .int .i64 0]) ∧ Nm w' r (a * 2 ^ m.toNat) ∧ Below w.heap.size w w' := by
 obtain ⟨n, rfl⟩ : ∃ n : Nat, m = n := ⟨m.toNat, by omega⟩
 rw [Int.toNat_natCast] at hf ⊢
 rcases Nat.eq_zero_or_pos n with z | z
 ·subst z
  have h := r_Shr h0 fa 0 (by omega)
  rw [Nat.pow_zero, Nat.div_one] at h
  rw [Nat.pow_zero, Nat.mul_one]
  exact h
 ·exact r_Shl h0 fa n z (by omega) hf
theorem tdiv_bound4 (s : Int) (h : -40000000 ≤ s) (h2 : s ≤ 40000000) : -400 ≤ s.tdiv 100000 ∧ s.tdiv 100000 ≤ 400 := by
 rcases Int.le_total 0 s with c | c
 ·rw [Int.tdiv_eq_ediv_of_nonneg c]
  omega
 ·obtain ⟨z, hz⟩ : ∃ z, s = -z := ⟨-s, by omega⟩
  subst hz
  rw [Int.neg_tdiv, Int.tdiv_eq_ediv_of_nonneg (by omega)]
  omega
set_option maxRecDepth 100000 in
theorem r4_Rep_zero (w : World) (a : Nat) (ha : a < 18446744073709551616) (hf : ffin a = true) (hz : fmant a = 0) (n : Int) (h0 : 1 ≤ n) (h1 : n ≤ 40) : Calls Tryz.prog 56 #[.int .u64 (a : Int), .int .i64 n] w fun e w' => e = .returned (.tuple #[.agg #[.string (bs (List.replicate n.toNat 48)), .int .i64 0, .bool (fneg a)], .int .i64 0]) ∧ Below w.heap.size w w' := by
 have HS := md_ (fun w => r3_Split_good w a ha hf)
 obtain ⟨aa, haa⟩ : ∃ z : Int, (a : Int) = z := ⟨_, rfl⟩
 obtain ⟨neg, hneg⟩ : ∃ z, fneg a = z := ⟨_, rfl⟩
 obtain ⟨t, ht⟩ : ∃ z, bs (List.replicate n.toNat 48) = z := ⟨_, rfl⟩
 have HTT := md_ ht
 rw [haa, hneg, hz] at HS
 rw [haa, hneg, ht]
 have d1 := decide_eq_false (show ¬ n < 1 by omega)
 have d2 := decide_eq_false (show ¬ 40 < n by omega)
 have HZ := md_ (show (Num.wordsN 0).length = 0 by rw [Num.wordsN_zero]; rfl)
 have HN := md_ (show 1 ≤ n ∧ n ≤ 40 by omega)
 clear ha hf hz haa hneg h0 h1 ht
 go_enter Tryz.func56, Tryz.ntmps56
 go_upto_region 1 with (fail)
 obtain ⟨g, hg⟩ : ∃ g, w.heap.size = g := ⟨_, rfl⟩
 generalize hW : w.alloc _ = W1
 have BK := md_ (show W1.heap[g]? = some (.cells #[.string ⟨#[]⟩, .int .i64 0, .bool false] 87 (0, 0)) by rw [← hW, ← hg]; exact blk_new _ _)
 have HB := md_ (show Below w.heap.size w W1 by rw [← hW]; exact below_alloc (Below.refl _ _) _)
 have GE := md_ (show w.heap.size ≤ g by omega)
 clear hW
 rw [hg]
 clear hg
 go_wp2_with (first | (go_at_call 72; (with_reducible refine (HS.out _).mono ?_); rintro e w' ⟨v, rfl, hv, hb⟩; obtain ⟨A, c, hva, -, -, -⟩ := hv.open; rw [HZ.out] at hva; subst hva; clear hv; replace HB := bt_ HB hb; replace BK := md_ (blk_below BK.out hb); clear hb))
 go_loopg [10, 11] n.toNat (fun kq v10 v11 wr => ∃ (i : Nat) (s : ByteArray), v10 = .string s ∧ v11 = .int .i64 (i : Int) ∧ Aside0 (bs (List.replicate i 48) = s) ∧ Aside0 (i + kq = n.toNat) ∧ Aside0 (Below w.heap.size w wr) ∧ Aside0 (wr.heap[g]? = some (.cells #[.string ⟨#[]⟩, .int .i64 0, .bool false] 87 (0, 0))))
 case atStart => exact ⟨0, _, rfl, rfl, ⟨rfl⟩, ⟨Nat.zero_add _⟩, HB, BK⟩
 case round =>
  clear HB BK
  obtain ⟨i, s, rfl, rfl, HT, HI, HB, BK⟩ := hrel
  cases gk with
  | zero =>
   have hi : (i : Int) = n := by have := HI.out; have := HN.out; omega
   have c1 := decide_eq_false (show ¬ (i : Int) < n by omega)
   have hst : s = t := by rw [← HT.out, ← HTT.out, show n.toNat = i by omega]
   subst hst
   clear hi
   have z0 := (blk_cell BK.out 0).trans (show _ = some (Value.string ⟨#[]⟩) from rfl); have z1 := (blk_cell BK.out 1).trans (show _ = some (Value.int .i64 0) from rfl); have z2 := (blk_cell BK.out 2).trans (show _ = some (Value.bool false) from rfl); have f0 := blk_frozen BK.out 0; have f1 := blk_frozen BK.out 1; have f2 := blk_frozen BK.out 2
   go_wp2
   refine bodyPost_ret (res_row_tmp rfl _ _ g 87 #[.string s, .int .i64 0, .bool neg] (0, 0) _ rfl (by refine blk_put (cs := #[.string s, .int .i64 0, .bool false]) ?_ 2 _ rfl; refine blk_put (cs := #[.string s, .int .i64 0, .bool false]) ?_ 1 _ rfl; refine blk_put (cs := #[.string ⟨#[]⟩, .int .i64 0, .bool false]) ?_ 0 _ rfl; exact BK.out) Tryz.underlying87 rfl (by kernel_rfl)) rfl ?_
   exact ⟨rfl, below_set (below_set (below_set HB.out GE.out) GE.out) GE.out⟩
  | succ j =>
   have c1 := decide_eq_true (show (i : Int) < n by have := HI.out; have := HN.out; omega)
   have W1 := wrp (x := (i : Int) + 1) (y := ((i + 1 : Nat) : Int)) (by have := HI.out; have := HN.out; omega)
   have HI2 := md_ (show i + 1 + j = n.toNat by have := HI.out; omega)
   obtain ⟨w1, w2⟩ := W1.out
   obtain ⟨s2, hs2⟩ : ∃ z, s ++ (⟨#[48]⟩ : ByteArray) = z := ⟨_, rfl⟩
   have HT2 := md_ (show bs (List.replicate (i + 1) 48) = s2 by
    rw [← hs2, ← HT.out, show (⟨#[48]⟩ : ByteArray) = bs [48] from rfl, bs_app, List.replicate_succ'])
   have y1 : ¬ 9223372036854775807 < s.size + 1 := by
    have := HI.out
    have := HN.out
    rw [← HT.out, bs_size, List.length_replicate]
    omega
   clear W1
   go_wp2
   go_roundg j
   case measure => omega
   case rel => exact ⟨i + 1, s2, by first | rfl | rw [hs2], by first | rfl | rw [w1] | rw [w2], HT2, HI2, HB, BK⟩
set_option maxRecDepth 100000 in
theorem r4_Rep_main (w : World) (a : Nat) (ha : a < 18446744073709551616) (hf : ffin a = true) (hz : 0 < fmant a) (n : Int) (h0 : 1 ≤ n) (h1 : n ≤ 40) (D : Int) (hD : Dex (fmant a) (fpow a) D) : Calls Tryz.prog 56 #[.int .u64 (a : Int), .int .i64 n] w fun e w' => e = .returned (.tuple #[.agg #[.string (bs (repT (fmant a) (fpow a) n D)), .int .i64 (repX (fmant a) (fpow a) n D), .bool (fneg a)], .int .i64 0]) ∧ Below w.heap.size w w' := by
 have HS := md_ (fun w => r3_Split_good w a ha hf)
 have hM := fmant_lt a
 obtain ⟨he1, he2⟩ := fpow_bound a hf
 obtain ⟨aa, haa⟩ : ∃ z : Int, (a : Int) = z := ⟨_, rfl⟩
 obtain ⟨neg, hneg⟩ : ∃ z, fneg a = z := ⟨_, rfl⟩
 rw [haa, hneg] at HS
 rw [haa, hneg]
 obtain ⟨M, hMM⟩ : ∃ z, fmant a = z := ⟨_, rfl⟩
 obtain ⟨e, hee⟩ : ∃ z, fpow a = z := ⟨_, rfl⟩
 rw [hMM, hee] at HS hD ⊢
 rw [hMM] at hM hz
 rw [hee] at he1 he2
 obtain ⟨hD1, hD2⟩ := hD.bound hz hM he1 he2
 have fM : Fit M := fit_lt hM (by omega)
 obtain ⟨ne, hne⟩ : ∃ z, -e = z := ⟨_, rfl⟩
 obtain ⟨B, hB⟩ : ∃ z, z = 1100 := ⟨_, rfl⟩
 obtain ⟨N, hN⟩ : ∃ z, M * 2 ^ e.toNat = z := ⟨_, rfl⟩
 obtain ⟨P, hP⟩ : ∃ z, 2 ^ ne.toNat = z := ⟨_, rfl⟩
 have hP0 : 0 < P := by rw [← hP]; exact Nat.two_pow_pos _
 have hN0 : 0 < N := by rw [← hN]; exact Nat.mul_pos hz (Nat.two_pow_pos _)
 have hNB : N < 2 ^ B := by
  have h2 := mul_lt_pow hM (two_lt e.toNat)
  rw [hN] at h2
  exact Nat.lt_of_lt_of_le h2 (Nat.pow_le_pow_right (by decide) (by omega))
 have hPB : P < 2 ^ B := by
  rw [← hP]
  exact Nat.lt_of_lt_of_le (two_lt ne.toNat) (Nat.pow_le_pow_right (by decide) (by omega))
 have fN : Fit N := fit_lt hNB (by omega)
 have fP : Fit P := fit_lt hPB (by omega)
 have SN := md_ (fun (w : World) (v : Value) (h : Nm w v M) (k : 0 ≤ e) => r_Sh h fM e k (by omega) (by rw [hN]; exact fN))
 have SP := md_ (fun (w : World) (v : Value) (h : Nm w v 1) (k : 0 ≤ ne) => r_Sh h (fit_lt (b := 1) (by decide) (by omega)) ne k (by omega) (by rw [Nat.one_mul, hP]; exact fP))
 rw [hN] at SN
 rw [Nat.one_mul, hP] at SP
 have hsame : ∀ x, decide (P * 10 ^ x.toNat ≤ N * 10 ^ (-x).toNat) = rch M e x := fun x => by
  unfold rch lhs rhs
  rw [← hN, ← hP, ← hne, Nat.mul_right_comm, Nat.mul_comm (10 ^ x.toNat)]
 have hnear : rndQ (N * 10 ^ (-(D - n)).toNat) (P * 10 ^ (D - n).toNat) = nearN M e (D - n) := by
  rw [near_rnd]
  unfold lhs rhs
  rw [← hN, ← hP, ← hne, Nat.mul_right_comm, Nat.mul_comm (10 ^ (D - n).toNat)]
 have HO : Aside0 (∀ w, Calls Tryz.prog 58 #[.int .u64 1] w fun e w' => ∃ r, e = .returned r ∧ Nm w' r 1 ∧ Below w.heap.size w w') := ⟨fun w => r_Of w 1 (by decide)⟩
 have BN := md_ (fun (w : World) (v : Value) (h : Nm w v N) => r_Bits h fN)
 have BP := md_ (fun (w : World) (v : Value) (h : Nm w v P) => r_Bits h fP)
 have hbN : Num.bitsN N ≤ B := bits_lt hNB
 have hbP : Num.bitsN P ≤ B := bits_lt hPB
 obtain ⟨bn, hbn⟩ : ∃ z : Int, ((Num.bitsN N : Nat) : Int) = z := ⟨_, rfl⟩
 obtain ⟨bp, hbp⟩ : ∃ z : Int, ((Num.bitsN P : Nat) : Int) = z := ⟨_, rfl⟩
 rw [hbn] at BN
 rw [hbp] at BP
 have hb0 : 0 ≤ bn ∧ bn ≤ 1100 ∧ 0 ≤ bp ∧ bp ≤ 1100 := by omega
 obtain ⟨s1, hs1⟩ : ∃ z, bn - bp = z := ⟨_, rfl⟩
 obtain ⟨s2, hs2⟩ : ∃ z, s1 * 30103 = z := ⟨_, rfl⟩
 have hs3b := tdiv_bound4 s2 (by omega) (by omega)
 obtain ⟨x0, hx0⟩ : ∃ z, s2.tdiv 100000 = z := ⟨_, rfl⟩
 rw [hx0] at hs3b
 have W1 := wrp (x := bn - bp) (y := s1) (by omega)
 have W2 := wrp (x := s1 * 30103) (y := s2) (by omega)
 have W3 := wrp (x := x0) (y := x0) (by omega)
 have W4 := wrp (x := -e) (y := ne) (by omega)
 have HX0 := md_ (show -400 ≤ x0 ∧ x0 ≤ 400 by omega)
 have HDB := md_ (show -335 ≤ D ∧ D ≤ 342 by omega)
 have HDD := md_ hD
 have HRch := md_ (fun (w : World) (v u : Value) (h : Nm w v N) (g : Nm w u P) (x : Int) (k1 : -400 ≤ x) (k2 : x ≤ 400) => (hsame x) ▸ r4_ge w (B := B) (by omega) h g hNB hPB x (by omega) (by omega))
 have HNear := md_ (fun (w : World) (v u : Value) (h : Nm w v N) (g : Nm w u P) => hnear ▸ r4_scaled w (B := B) (by omega) h g hNB hPB hP0 (D - n) (by omega) (by omega))
 rw [show -(D - n) = n - D by omega] at HNear
 have HND := wrp (x := n - D) (y := n - D) (by omega)
 obtain ⟨L, hL⟩ : ∃ z, (Num.wordsN M).length = z := ⟨_, rfl⟩
 have hL0 : 0 < L := by
  rw [← hL]
  rcases Nat.eq_zero_or_pos (Num.wordsN M).length with z | z
  ·exfalso
   have : M = 0 := by rw [← Num.wordsN_val M, List.eq_nil_of_length_eq_zero z]; rfl
   omega
  ·exact z
 have HL := md_ hL
 have g1 : ((L : Int) == 0) = false := by rw [beq_eq_false_iff_ne]; omega
 have g2 : ¬ (L : Int) = 0 := by omega
 have g3 : ¬ L = 0 := by omega
 have d1 := decide_eq_false (show ¬ n < 1 by omega)
 have d2 := decide_eq_false (show ¬ 40 < n by omega)
 have HNN := md_ (show 1 ≤ n ∧ n ≤ 40 by omega)
 obtain ⟨T, hT⟩ : ∃ z, Num.textN (nearN M e (D - n)) = z := ⟨_, rfl⟩
 have hTT : (⟨(Num.textN (nearN M e (D - n))).toArray⟩ : ByteArray) = bs T := by rw [hT]; rfl
 rw [hTT] at HNear
 unfold repT repX
 rw [hT]
 obtain ⟨t, ht⟩ : ∃ z, bs T = z := ⟨_, rfl⟩
 rw [ht] at HNear
 have htl : T.length = t.size := by rw [← ht, bs_size]
 have htk : bs (T.take n.toNat) = if n < T.length then t.extract 0 n.toNat else t := by
  split
  ·rw [← ht, bs_to]
  ·rw [← ht, List.take_of_length_le (by omega)]
 rw [htk, htl]
 obtain ⟨u, hu⟩ : ∃ z : ByteArray, (if n < (t.size : Nat) then t.extract 0 n.toNat else t) = z := ⟨_, rfl⟩
 obtain ⟨x5, hx5⟩ : ∃ z : Int, (if n < (t.size : Nat) then D + 1 else D) = z := ⟨_, rfl⟩
 rw [hu, hx5]
 have HU := md_ hu
 have HXX := md_ hx5
 have HN2 := md_ (show 0 ≤ n ∧ n ≤ 40 by omega)
 have HE := md_ (show (0 < e ∧ P = 1) ∨ (e ≤ 0 ∧ 0 ≤ ne ∧ N = M) from by
  rcases Int.lt_or_le 0 e with c | c
  ·exact .inl ⟨c, by rw [← hP, show ne.toNat = 0 by omega]⟩
  ·exact .inr ⟨c, by omega, by rw [← hN, show e.toNat = 0 by omega, Nat.pow_zero, Nat.mul_one]⟩)
 clear hu hx5 htk htl ht hT hTT hL hL0 hb0 hbN hbP fM hM hz hD he1 he2 hs3b hD1 hD2 h0 h1 ha hf haa hneg hMM hee hbn hbp hs1 hs2 hne hB hN hP hP0 hN0 hNB hPB fN fP hsame hnear
 obtain ⟨v1, v2⟩ := W1.out
 obtain ⟨v3, v4⟩ := W2.out
 obtain ⟨v5, v6⟩ := W3.out
 obtain ⟨v7, v8⟩ := W4.out
 clear W1 W2 W3 W4
 go_enter Tryz.func56, Tryz.ntmps56
 go_upto_region 1 with (fail)
 obtain ⟨g, hg⟩ : ∃ g, w.heap.size = g := ⟨_, rfl⟩
 generalize hW : w.alloc _ = W1
 have BK := md_ (show W1.heap[g]? = some (.cells #[.string ⟨#[]⟩, .int .i64 0, .bool false] 87 (0, 0)) by rw [← hW, ← hg]; exact blk_new _ _)
 have HB := md_ (show Below w.heap.size w W1 by rw [← hW]; exact below_alloc (Below.refl _ _) _)
 have GE := md_ (show w.heap.size ≤ g by omega)
 clear hW
 rw [hg]
 clear hg
 go_upto_if 50 with (first | (go_at_call 72; (with_reducible refine (HS.out _).mono ?_); rintro e w' ⟨v, rfl, hv, hb⟩; obtain ⟨A, c, hva, -, -, -⟩ := hv.open; rw [HL.out] at hva; subst hva; have HV := md_ hv; clear hv; replace HB := bt_ HB hb; replace BK := md_ (blk_below BK.out hb); clear hb) | (go_at_call 58; (with_reducible refine (HO.out _).mono ?_); rintro e w' ⟨v1, rfl, hr, hb⟩; have HP := md_ hr; clear hr; replace HV := md_ (HV.out.below hb); replace HB := bt_ HB hb; replace BK := md_ (blk_below BK.out hb); clear hb))
 go_cut [12, 13] (fun v12 v13 wr => Aside0 (Nm wr v12 N) ∧ Aside0 (Nm wr v13 P) ∧ Aside0 (Below w.heap.size w wr) ∧ Aside0 (wr.heap[g]? = some (.cells #[.string ⟨#[]⟩, .int .i64 0, .bool false] 87 (0, 0))))
 case first =>
  rcases HE.out with ⟨c1, hP1⟩ | ⟨c1, c2, hN1⟩
  ·have c3 := decide_eq_true c1
   rw [← hP1] at HP
   have SN1 := md_ (fun w v h => SN.out w v h (by omega))
   clear hP1
   go_wp2_with (go_at_call 73; (with_reducible refine (SN1.out _ _ HV.out).mono ?_); rintro e w' ⟨r, rfl, hr, hb⟩; have HN := md_ hr; clear hr; replace HP := md_ (HP.out.below hb); replace HB := bt_ HB hb; replace BK := md_ (blk_below BK.out hb); clear hb)
   go_meet
   case rel => exact ⟨HN, HP, HB, BK⟩
  ·have c4 : ¬ 0 < e := by omega
   have c3 := decide_eq_false c4
   rw [← hN1] at HV
   have SP1 := md_ (fun w v h => SP.out w v h c2)
   clear c1 c2 hN1
   go_wp2_with (go_at_call 73; (with_reducible refine (SP1.out _ _ HP.out).mono ?_); rintro e w' ⟨r, rfl, hr, hb⟩; have HN := md_ hr; clear hr; replace HV := md_ (HV.out.below hb); replace HB := bt_ HB hb; replace BK := md_ (blk_below BK.out hb); clear hb)
   go_meet
   case rel => exact ⟨HV, HN, HB, BK⟩
 case rest =>
  clear HV HP HB BK
  obtain ⟨HV, HP, HB, BK⟩ := hcut
  go_wp2_with (first | (go_at_call 74; (with_reducible refine (BN.out _ _ HV.out).mono ?_); rintro e w'' ⟨rfl, hb⟩; replace HV := md_ (HV.out.below hb); replace HP := md_ (HP.out.below hb); replace HB := bt_ HB hb; replace BK := md_ (blk_below BK.out hb); clear hb) | (go_at_call 74; (with_reducible refine (BP.out _ _ HP.out).mono ?_); rintro e w'' ⟨rfl, hb⟩; replace HV := md_ (HV.out.below hb); replace HP := md_ (HP.out.below hb); replace HB := bt_ HB hb; replace BK := md_ (blk_below BK.out hb); clear hb))
  clear v1 v2 v3 v4 v5 v6 v7 v8 hx0 HS BN BP
  go_loopg [14] (D - x0).toNat (fun kq v14 wr => ∃ x : Int, v14 = .int .i64 x ∧ Aside0 (-400 ≤ x ∧ x ≤ 400 ∧ -400 ≤ x ∧ (D - x).toNat = kq) ∧ Aside0 (Nm wr u12 N) ∧ Aside0 (Nm wr u13 P) ∧ Aside0 (Below w.heap.size w wr) ∧ Aside0 (wr.heap[g]? = some (.cells #[.string ⟨#[]⟩, .int .i64 0, .bool false] 87 (0, 0))))
  case atStart => exact ⟨x0, rfl, ⟨by have := HX0.out; omega⟩, HV, HP, HB, BK⟩
  case round =>
   clear HV HP HB BK
   obtain ⟨x, rfl, HQ, HV, HP, HB, BK⟩ := hrel
   have C1 := md_ (fun wq (h : Nm wq u12 N) (h2 : Nm wq u13 P) => HRch.out wq _ _ h h2 x (by have := HQ.out; omega) (by have := HQ.out; omega))
   cases hx : rch M e x with
   | true =>
    have hlt : x < D := HDD.out.lt hx
    obtain ⟨j, rfl⟩ : ∃ j, gk = j + 1 := ⟨gk - 1, by have := HQ.out; omega⟩
    have HQ2 := md_ (show -400 ≤ x + 1 ∧ x + 1 ≤ 400 ∧ -400 ≤ x + 1 ∧ (D - (x + 1)).toNat = j by have := HQ.out; have := HDB.out; omega)
    obtain ⟨y1, y2⟩ := (wrp (x := x + 1) (y := x + 1) (by have := HQ2.out; omega)).out
    rw [hx] at C1
    clear hx hlt
    go_wp2_with (go_at_call 75; (with_reducible refine (C1.out _ HV.out HP.out).mono ?_); rintro q w5 ⟨rfl, hb⟩; replace HV := md_ (HV.out.below hb); replace HP := md_ (HP.out.below hb); replace HB := bt_ HB hb; replace BK := md_ (blk_below BK.out hb); clear hb)
    go_roundg j
    case measure => omega
    case rel => exact ⟨x + 1, by first | rfl | (rw [y1]) | (rw [y2]), HQ2, HV, HP, HB, BK⟩
   | false =>
    have hge : D ≤ x := HDD.out.ge hx
    have HG := md_ (show -400 ≤ x ∧ x ≤ 400 ∧ D ≤ x by have := HQ.out; omega)
    rw [hx] at C1
    clear hx hge
    go_wp2_with (go_at_call 75; (with_reducible refine (C1.out _ HV.out HP.out).mono ?_); rintro q w5 ⟨rfl, hb⟩; replace HV := md_ (HV.out.below hb); replace HP := md_ (HP.out.below hb); replace HB := bt_ HB hb; replace BK := md_ (blk_below BK.out hb); clear hb)
    go_loopg [14] (x - D).toNat (fun kq v14 wr => ∃ x : Int, v14 = .int .i64 x ∧ Aside0 (-400 ≤ x ∧ x ≤ 400 ∧ D ≤ x ∧ (x - D).toNat = kq) ∧ Aside0 (Nm wr u12 N) ∧ Aside0 (Nm wr u13 P) ∧ Aside0 (Below w.heap.size w wr) ∧ Aside0 (wr.heap[g]? = some (.cells #[.string ⟨#[]⟩, .int .i64 0, .bool false] 87 (0, 0))))
    case atStart => exact ⟨x, rfl, ⟨by have := HG.out; omega⟩, HV, HP, HB, BK⟩
    case round =>
     clear HV HP HB BK HQ HG C1
     obtain ⟨x2, rfl, HQ, HV, HP, HB, BK⟩ := hrel
     have C2 := md_ (fun wq (h : Nm wq u12 N) (h2 : Nm wq u13 P) => HRch.out wq _ _ h h2 (x2 - 1) (by have := HQ.out; have := HDB.out; omega) (by have := HQ.out; omega))
     obtain ⟨x3, hx3⟩ : ∃ z, x2 - 1 = z := ⟨_, rfl⟩
     obtain ⟨y1, y2⟩ := (wrp (x := x2 - 1) (y := x3) (by have := HQ.out; omega)).out
     rw [hx3] at C2
     cases hx : rch M e x3 with
     | false =>
      have hge : D ≤ x3 := HDD.out.ge hx
      have HX3 := md_ hx3
      clear hx3 y1 y2
      obtain ⟨j, rfl⟩ : ∃ j, gk = j + 1 := ⟨gk - 1, by have := HQ.out; have := HX3.out; omega⟩
      have HQ2 := md_ (show -400 ≤ x3 ∧ x3 ≤ 400 ∧ D ≤ x3 ∧ (x3 - D).toNat = j by have := HQ.out; have := HDB.out; have := HX3.out; omega)
      obtain ⟨y1, y2⟩ := (wrp (x := x2 - 1) (y := x3) (by have := HQ.out; have := HX3.out; omega)).out
      rw [hx] at C2
      clear hx hge
      go_wp2_with (go_at_call 75; (with_reducible refine (C2.out _ HV.out HP.out).mono ?_); rintro q w5 ⟨rfl, hb⟩; replace HV := md_ (HV.out.below hb); replace HP := md_ (HP.out.below hb); replace HB := bt_ HB hb; replace BK := md_ (blk_below BK.out hb); clear hb)
      go_roundg j
      case measure => omega
      case rel => exact ⟨x3, by first | rfl | (rw [y1]) | (rw [y2]), HQ2, HV, HP, HB, BK⟩
     | true =>
      have hlt : x3 < D := HDD.out.lt hx
      have hx2 : x2 = D := by have := HQ.out; clear y1 y2; omega
      rw [hx] at C2
      subst hx2
      have hx4 := md_ hx3
      clear hx hlt hx3
      obtain ⟨m1, m2⟩ := HND.out
      by_cases hn : n < (t.size : Nat)
      ·have e1 := decide_eq_true hn
       have e2 : (0 : Int) ≤ n := HN2.out.1
       have e3 : n ≤ (t.size : Nat) := Int.le_of_lt hn
       have hu := HU.out
       have hx5 := HXX.out
       rw [if_pos hn] at hu hx5
       obtain ⟨z1, z2⟩ := (wrp (x := x2 + 1) (y := x5) ⟨hx5, by have := HDB.out; clear m1 m2 y1 y2; omega⟩).out
       clear hn hx5
       go_wp2_with (first | (go_at_call 75; (with_reducible refine (C2.out _ HV.out HP.out).mono ?_); rintro q w5 ⟨rfl, hb⟩; replace HV := md_ (HV.out.below hb); replace HP := md_ (HP.out.below hb); replace HB := bt_ HB hb; replace BK := md_ (blk_below BK.out hb); clear hb) | (go_at_call 76; (with_reducible refine (HNear.out _ _ _ HV.out HP.out).mono ?_); rintro q w6 ⟨rfl, hb⟩; replace HB := bt_ HB hb; replace BK := md_ (blk_below BK.out hb); have z0 := (blk_cell BK.out 0).trans (show _ = some (Value.string ⟨#[]⟩) from rfl); have z1 := (blk_cell BK.out 1).trans (show _ = some (Value.int .i64 0) from rfl); have z2 := (blk_cell BK.out 2).trans (show _ = some (Value.bool false) from rfl); have f0 := blk_frozen BK.out 0; have f1 := blk_frozen BK.out 1; have f2 := blk_frozen BK.out 2; clear hb))
       refine bodyPost_ret (res_row_tmp rfl _ _ g 87 #[.string u, .int .i64 x5, .bool neg] (0, 0) _ rfl (by refine blk_put (cs := #[.string u, .int .i64 x5, .bool false]) ?_ 2 _ rfl; refine blk_put (cs := #[.string u, .int .i64 0, .bool false]) ?_ 1 _ rfl; refine blk_put (cs := #[.string ⟨#[]⟩, .int .i64 0, .bool false]) ?_ 0 _ rfl; exact BK.out) Tryz.underlying87 rfl (by kernel_rfl)) rfl ?_
       exact ⟨rfl, below_set (below_set (below_set HB.out GE.out) GE.out) GE.out⟩
      ·have e1 := decide_eq_false hn
       have hu := HU.out
       have hx5 := HXX.out
       rw [if_neg hn] at hu hx5
       subst hu hx5
       clear hn
       go_wp2_with (first | (go_at_call 75; (with_reducible refine (C2.out _ HV.out HP.out).mono ?_); rintro q w5 ⟨rfl, hb⟩; replace HV := md_ (HV.out.below hb); replace HP := md_ (HP.out.below hb); replace HB := bt_ HB hb; replace BK := md_ (blk_below BK.out hb); clear hb) | (go_at_call 76; (with_reducible refine (HNear.out _ _ _ HV.out HP.out).mono ?_); rintro q w6 ⟨rfl, hb⟩; replace HB := bt_ HB hb; replace BK := md_ (blk_below BK.out hb); have z0 := (blk_cell BK.out 0).trans (show _ = some (Value.string ⟨#[]⟩) from rfl); have z1 := (blk_cell BK.out 1).trans (show _ = some (Value.int .i64 0) from rfl); have z2 := (blk_cell BK.out 2).trans (show _ = some (Value.bool false) from rfl); have f0 := blk_frozen BK.out 0; have f1 := blk_frozen BK.out 1; have f2 := blk_frozen BK.out 2; clear hb))
       refine bodyPost_ret (res_row_tmp rfl _ _ g 87 #[.string t, .int .i64 x2, .bool neg] (0, 0) _ rfl (by refine blk_put (cs := #[.string t, .int .i64 x2, .bool false]) ?_ 2 _ rfl; refine blk_put (cs := #[.string t, .int .i64 0, .bool false]) ?_ 1 _ rfl; refine blk_put (cs := #[.string ⟨#[]⟩, .int .i64 0, .bool false]) ?_ 0 _ rfl; exact BK.out) Tryz.underlying87 rfl (by kernel_rfl)) rfl ?_
       exact ⟨rfl, below_set (below_set (below_set HB.out GE.out) GE.out) GE.out⟩
theorem r4_Rep (w : World) (a : Nat) (ha : a < 18446744073709551616) (hf : ffin a = true) (n : Int) (h0 : 1 ≤ n) (h1 : n ≤ 40) : Calls Tryz.prog 56 #[.int .u64 (a : Int), .int .i64 n] w fun e w' => e = .returned (.tuple #[.agg #[.string (bs (repText a n)), .int .i64 (repExp a n), .bool (fneg a)], .int .i64 0]) ∧ Below w.heap.size w w' := by
 unfold repText repExp
 by_cases hz : fmant a = 0
 ·rw [if_pos hz, if_pos hz]
  exact r4_Rep_zero w a ha hf hz n h0 h1
 ·rw [if_neg hz, if_neg hz]
  exact r4_Rep_main w a ha hf (Nat.pos_of_ne_zero hz) n h0 h1 _ (rep_dex hf hz)
end Go.Proofs.YtneepokiioefgaaGreatDoor.Dec
set_option maxHeartbeats 32000000
namespace Go.Proofs.YtneepokiioefgaaGreatDoor.Dec
open Go.RowKit Go.Flt Go.Read PDec Go.Proofs.YtneepokiioefgaaGreatDoor.Pure YtneepokiioefgaaGreatDoorW.PrintWords YtneepokiioefgaaGreatDoorW.PrintLast YtneepokiioefgaaGreatDoorW.PrintMore
def sgn (a : Nat) : List UInt8 := if fneg a then [45] else []
theorem sgn_len (a : Nat) : (sgn a).length ≤ 1 := by unfold sgn; split <;> decide
theorem shown_sgn {a : Nat} (hf : ffin a = true) (r : List UInt8) : shownV a r = sgn a ++ r := by
 unfold shownV sgn
 rw [if_pos hf]
 split <;> rfl
theorem zero1_many {a : Nat} (hf : ffin a = true) {n : Int} (hn : 1 ≤ n) : zero1 (repText a n) = decide (fmant a = 0) := by
 unfold repText
 by_cases hz : fmant a = 0
 ·rw [if_pos hz, decide_eq_true hz, show n.toNat = (n.toNat - 1) + 1 by omega, List.replicate_succ]
  rfl
 ·rw [if_neg hz, decide_eq_false hz]
  have hD := rep_dex hf hz
  obtain ⟨n1, n2⟩ := near_dex hD hn
  have hp : 0 < 10 ^ (n.toNat - 1) := Nat.pow_pos (by decide)
  have ht := textN_trim (v := nearN (fmant a) (fpow a) (dex (fmant a) (fpow a) - n)) (by omega)
  have hne := textN_ne (nearN (fmant a) (fpow a) (dex (fmant a) (fpow a) - n))
  unfold repT zero1
  match hc : Num.textN (nearN (fmant a) (fpow a) (dex (fmant a) (fpow a) - n)), hne with
  | c :: t, _ =>
   rw [hc] at ht
   have hcne : c ≠ 48 := by
    intro e
    have h2 : trim0 (c :: t) = t.dropWhile (· == 48) := by
     unfold trim0
     rw [List.dropWhile_cons, if_pos (by simpa using e)]
    rw [h2] at ht
    have := (List.dropWhile_sublist (l := t) (· == 48)).length_le
    rw [ht, List.length_cons] at this
    omega
   rw [show n.toNat = (n.toNat - 1) + 1 by omega, List.take_succ_cons]
   show ((some c == some 48) = false)
   simpa using hcne
theorem zero_iff {a : Nat} (ha : a < 18446744073709551616) (hf : ffin a = true) : decide (a % 9223372036854775808 = 0) = decide (fmant a = 0) := by
 rw [decide_eq_decide]
 constructor
 ·intro h
  unfold fmant fexp
  rw [if_pos (by omega)]
  omega
 ·intro h
  unfold fmant fexp at h
  split at h <;> omega
set_option maxRecDepth 100000 in
theorem r3_IsZero (w : World) (a : Nat) (ha : a < 18446744073709551616) : Calls Tryz.prog 45 #[.int .u64 (a : Int)] w fun e w' => e = .returned (.bool (decide (a % 9223372036854775808 = 0))) ∧ w' = w := by
 have h := abs_and a ha
 obtain ⟨y, hy⟩ : ∃ y : Int, ((a % 9223372036854775808 : Nat) : Int) = y := ⟨_, rfl⟩
 obtain ⟨b, hb⟩ : ∃ b, decide (a % 9223372036854775808 = 0) = b := ⟨_, rfl⟩
 have h2 : (y == 0) = b := by
  rw [← hb, Bool.eq_iff_iff]
  simp only [beq_iff_eq, decide_eq_true_iff]
  omega
 have h3 : decide (y = 0) = (y == 0) := (Bool.beq_eq_decide_eq _ _).symm
 obtain ⟨aa, haa⟩ : ∃ z : Int, (a : Int) = z := ⟨_, rfl⟩
 rw [hy, haa] at h
 rw [haa, hb]
 clear ha hy hb haa
 go_enter Tryz.func45, Tryz.ntmps45
 go_wp2
 go_ret
 exact ⟨by first | rfl | rw [h2], rfl⟩
def oddR (a : Nat) : List UInt8 := if ffin a then [] else oddV a
set_option maxRecDepth 100000 in
theorem r4_odd (w : World) (a : Nat) (ha : a < 18446744073709551616) : Calls Tryz.prog 43 #[.int .u64 (a : Int)] w fun e w' => e = .returned (.string (bs (oddR a))) ∧ w' = w := by
 have HN := md_ (fun w => r3_IsNaN w a ha)
 have HI := md_ (fun w => r3_IsInf w a ha)
 have hff := ffin_iff a
 obtain ⟨aa, haa⟩ : ∃ z : Int, (a : Int) = z := ⟨_, rfl⟩
 rw [haa] at HN HI
 rw [haa]
 unfold oddR
 cases hn : fnan a with
 | true =>
  rw [hn] at HN
  have hf : ffin a = false := by rw [hff, hn]; rfl
  have hv : bs (oddV a) = ⟨#[78, 97, 78]⟩ := by
   unfold fnan at hn
   rw [decide_eq_true_iff] at hn
   unfold oddV
   rw [if_neg (by omega), if_neg (by omega)]
   rfl
  rw [hf, if_neg (by decide), hv]
  clear hff hn hf hv HI ha haa
  go_enter Tryz.func43, Tryz.ntmps43
  go_wp2_with (go_at_call 54; (with_reducible refine (HN.out _).mono ?_); rintro e w' ⟨rfl, rfl⟩)
  go_ret
  exact ⟨rfl, rfl⟩
 | false =>
  rw [hn] at HN
  cases hi : finf a with
  | true =>
   rw [hi] at HI
   have hf : ffin a = false := by rw [hff, hn, hi]; rfl
   unfold finf at hi
   rw [decide_eq_true_iff] at hi
   rw [hf, if_neg (by decide)]
   by_cases h1 : a = 9218868437227405312
   ·have hv : bs (oddV a) = ⟨#[73, 110, 102]⟩ := by unfold oddV; rw [if_pos h1]; rfl
    rw [hv]
    have c1 : aa = 9218868437227405312 := by omega
    subst c1
    clear hff hn hf hv ha haa hi h1
    go_enter Tryz.func43, Tryz.ntmps43
    go_wp2_with (go_at_call 54; (with_reducible refine (HN.out _).mono ?_); rintro e w' ⟨rfl, rfl⟩)
    go_ret
    exact ⟨rfl, rfl⟩
   ·have hv : bs (oddV a) = ⟨#[45, 73, 110, 102]⟩ := by unfold oddV; rw [if_neg h1, if_pos (by omega)]; rfl
    rw [hv]
    have c1 : (aa == 9218868437227405312) = false := by rw [beq_eq_false_iff_ne]; omega
    have c2 := decide_eq_false (show ¬ aa = 9218868437227405312 by omega)
    have c3 : ¬ aa = 9218868437227405312 := by omega
    clear hff hn hf hv ha haa hi h1
    go_enter Tryz.func43, Tryz.ntmps43
    go_wp2_with (first | (go_at_call 54; (with_reducible refine (HN.out _).mono ?_); rintro e w' ⟨rfl, hw⟩; obtain rfl := hw.symm) | (go_at_call 55; (with_reducible refine (HI.out _).mono ?_); rintro e w' ⟨rfl, hw⟩; obtain rfl := hw.symm))
    go_ret
    exact ⟨rfl, rfl⟩
  | false =>
   rw [hi] at HI
   have hf : ffin a = true := by rw [hff, hn, hi]; rfl
   unfold finf at hi
   rw [decide_eq_false_iff_not] at hi
   rw [hf, if_pos rfl]
   have hv : bs [] = ⟨#[]⟩ := rfl
   rw [hv]
   have c1 : (aa == 9218868437227405312) = false := by rw [beq_eq_false_iff_ne]; omega
   have c2 := decide_eq_false (show ¬ aa = 9218868437227405312 by omega)
   have c3 : ¬ aa = 9218868437227405312 := by omega
   clear hff hn hf hv ha haa hi
   go_enter Tryz.func43, Tryz.ntmps43
   go_wp2_with (first | (go_at_call 54; (with_reducible refine (HN.out _).mono ?_); rintro e w' ⟨rfl, hw⟩; obtain rfl := hw.symm) | (go_at_call 55; (with_reducible refine (HI.out _).mono ?_); rintro e w' ⟨rfl, hw⟩; obtain rfl := hw.symm))
   go_ret
   exact ⟨rfl, rfl⟩
set_option maxRecDepth 100000 in
theorem r4_some (w : World) (a : Nat) (ha : a < 18446744073709551616) (hf : ffin a = true) (n : Int) : Calls Tryz.prog 44 #[.int .u64 (a : Int), .int .i64 n] w fun e w' => e = .returned (.tuple #[.string (bs (repText a (many n))), .int .i64 (repExp a (many n)), .string (bs (sgn a))]) ∧ Below w.heap.size w w' := by
 obtain ⟨hm1, hm2⟩ := many_bound n
 have hc : (n < 1 ∧ many n = 1) ∨ (1 ≤ n ∧ 17 < n ∧ many n = 17) ∨ (1 ≤ n ∧ n ≤ 17 ∧ many n = n) := by unfold many; omega
 have HR := md_ (fun w => r4_Rep w a ha hf (many n) (by omega) (by omega))
 unfold sgn
 obtain ⟨m, hm⟩ : ∃ z, many n = z := ⟨_, rfl⟩
 rw [hm] at HR hc
 rw [hm]
 obtain ⟨t, ht⟩ : ∃ z, bs (repText a m) = z := ⟨_, rfl⟩
 obtain ⟨x, hx⟩ : ∃ z, repExp a m = z := ⟨_, rfl⟩
 obtain ⟨aa, haa⟩ : ∃ z : Int, (a : Int) = z := ⟨_, rfl⟩
 obtain ⟨neg, hneg⟩ : ∃ z, fneg a = z := ⟨_, rfl⟩
 rw [ht, hx, haa, hneg] at HR
 rw [ht, hx, haa, hneg]
 have HB := md_ (Below.refl w.heap.size w)
 have hb0 : bs [] = ⟨#[]⟩ := rfl
 have hb1 : bs [45] = ⟨#[45]⟩ := rfl
 clear ha hf hm hm1 hm2 ht hx haa hneg
 rcases hc with ⟨c1, rfl⟩ | ⟨c1, c2, rfl⟩ | ⟨c1, c2, rfl⟩
 ·have d1 := decide_eq_true c1; clear c1
  cases neg
  ·rw [if_neg (by decide), hb0]
   go_enter Tryz.func44, Tryz.ntmps44
   go_upto_region 6 with (go_at_call 56; (with_reducible refine (HR.out _).mono ?_); rintro q w' ⟨rfl, hb⟩; replace HB := bt_ HB hb; clear hb)
   obtain ⟨g, hg⟩ : ∃ g, w'.heap.size = g := ⟨_, rfl⟩
   generalize hW : w'.alloc (Obj.cells #[Value.string t, Value.int .i64 x, Value.bool false] 87) = W1
   have BK := md_ (show W1.heap[g]? = some (.cells #[.string t, .int .i64 x, .bool false] 87 (0, 0)) by rw [← hW, ← hg]; exact blk_new _ _)
   replace HB := md_ (show Below w.heap.size w W1 by rw [← hW]; exact below_alloc HB.out _)
   clear hW
   rw [hg]
   clear hg
   have z0 := (blk_cell BK.out 0).trans (show _ = some (Value.string t) from rfl)
   have z1 := (blk_cell BK.out 1).trans (show _ = some (Value.int .i64 x) from rfl)
   have z2 := (blk_cell BK.out 2).trans (show _ = some (Value.bool false) from rfl)
   go_upto_region 8 with (fail)
   go_quiet (fail)
   go_wp2
   go_ret3
   exact ⟨rfl, by repeat (first | exact HB.out | apply pw_below_drewN | apply below_drew)⟩
  ·rw [if_pos rfl, hb1]
   go_enter Tryz.func44, Tryz.ntmps44
   go_upto_region 6 with (go_at_call 56; (with_reducible refine (HR.out _).mono ?_); rintro q w' ⟨rfl, hb⟩; replace HB := bt_ HB hb; clear hb)
   obtain ⟨g, hg⟩ : ∃ g, w'.heap.size = g := ⟨_, rfl⟩
   generalize hW : w'.alloc (Obj.cells #[Value.string t, Value.int .i64 x, Value.bool true] 87) = W1
   have BK := md_ (show W1.heap[g]? = some (.cells #[.string t, .int .i64 x, .bool true] 87 (0, 0)) by rw [← hW, ← hg]; exact blk_new _ _)
   replace HB := md_ (show Below w.heap.size w W1 by rw [← hW]; exact below_alloc HB.out _)
   clear hW
   rw [hg]
   clear hg
   have z0 := (blk_cell BK.out 0).trans (show _ = some (Value.string t) from rfl)
   have z1 := (blk_cell BK.out 1).trans (show _ = some (Value.int .i64 x) from rfl)
   have z2 := (blk_cell BK.out 2).trans (show _ = some (Value.bool true) from rfl)
   go_upto_region 7 with (fail)
   go_quiet (fail)
   go_wp2
   go_ret3
   exact ⟨rfl, by repeat (first | exact HB.out | apply pw_below_drewN | apply below_drew)⟩
 ·have d1 := decide_eq_false (show ¬ n < 1 by omega); have d2 := decide_eq_true c2; clear c1 c2
  cases neg
  ·rw [if_neg (by decide), hb0]
   go_enter Tryz.func44, Tryz.ntmps44
   go_upto_region 6 with (go_at_call 56; (with_reducible refine (HR.out _).mono ?_); rintro q w' ⟨rfl, hb⟩; replace HB := bt_ HB hb; clear hb)
   obtain ⟨g, hg⟩ : ∃ g, w'.heap.size = g := ⟨_, rfl⟩
   generalize hW : w'.alloc (Obj.cells #[Value.string t, Value.int .i64 x, Value.bool false] 87) = W1
   have BK := md_ (show W1.heap[g]? = some (.cells #[.string t, .int .i64 x, .bool false] 87 (0, 0)) by rw [← hW, ← hg]; exact blk_new _ _)
   replace HB := md_ (show Below w.heap.size w W1 by rw [← hW]; exact below_alloc HB.out _)
   clear hW
   rw [hg]
   clear hg
   have z0 := (blk_cell BK.out 0).trans (show _ = some (Value.string t) from rfl)
   have z1 := (blk_cell BK.out 1).trans (show _ = some (Value.int .i64 x) from rfl)
   have z2 := (blk_cell BK.out 2).trans (show _ = some (Value.bool false) from rfl)
   go_upto_region 8 with (fail)
   go_quiet (fail)
   go_wp2
   go_ret3
   exact ⟨rfl, by repeat (first | exact HB.out | apply pw_below_drewN | apply below_drew)⟩
  ·rw [if_pos rfl, hb1]
   go_enter Tryz.func44, Tryz.ntmps44
   go_upto_region 6 with (go_at_call 56; (with_reducible refine (HR.out _).mono ?_); rintro q w' ⟨rfl, hb⟩; replace HB := bt_ HB hb; clear hb)
   obtain ⟨g, hg⟩ : ∃ g, w'.heap.size = g := ⟨_, rfl⟩
   generalize hW : w'.alloc (Obj.cells #[Value.string t, Value.int .i64 x, Value.bool true] 87) = W1
   have BK := md_ (show W1.heap[g]? = some (.cells #[.string t, .int .i64 x, .bool true] 87 (0, 0)) by rw [← hW, ← hg]; exact blk_new _ _)
   replace HB := md_ (show Below w.heap.size w W1 by rw [← hW]; exact below_alloc HB.out _)
   clear hW
   rw [hg]
   clear hg
   have z0 := (blk_cell BK.out 0).trans (show _ = some (Value.string t) from rfl)
   have z1 := (blk_cell BK.out 1).trans (show _ = some (Value.int .i64 x) from rfl)
   have z2 := (blk_cell BK.out 2).trans (show _ = some (Value.bool true) from rfl)
   go_upto_region 7 with (fail)
   go_quiet (fail)
   go_wp2
   go_ret3
   exact ⟨rfl, by repeat (first | exact HB.out | apply pw_below_drewN | apply below_drew)⟩
 ·have d1 := decide_eq_false (show ¬ m < 1 by omega); have d2 := decide_eq_false (show ¬ 17 < m by omega); clear c1 c2
  cases neg
  ·rw [if_neg (by decide), hb0]
   go_enter Tryz.func44, Tryz.ntmps44
   go_upto_region 6 with (go_at_call 56; (with_reducible refine (HR.out _).mono ?_); rintro q w' ⟨rfl, hb⟩; replace HB := bt_ HB hb; clear hb)
   obtain ⟨g, hg⟩ : ∃ g, w'.heap.size = g := ⟨_, rfl⟩
   generalize hW : w'.alloc (Obj.cells #[Value.string t, Value.int .i64 x, Value.bool false] 87) = W1
   have BK := md_ (show W1.heap[g]? = some (.cells #[.string t, .int .i64 x, .bool false] 87 (0, 0)) by rw [← hW, ← hg]; exact blk_new _ _)
   replace HB := md_ (show Below w.heap.size w W1 by rw [← hW]; exact below_alloc HB.out _)
   clear hW
   rw [hg]
   clear hg
   have z0 := (blk_cell BK.out 0).trans (show _ = some (Value.string t) from rfl)
   have z1 := (blk_cell BK.out 1).trans (show _ = some (Value.int .i64 x) from rfl)
   have z2 := (blk_cell BK.out 2).trans (show _ = some (Value.bool false) from rfl)
   go_upto_region 8 with (fail)
   go_quiet (fail)
   go_wp2
   go_ret3
   exact ⟨rfl, by repeat (first | exact HB.out | apply pw_below_drewN | apply below_drew)⟩
  ·rw [if_pos rfl, hb1]
   go_enter Tryz.func44, Tryz.ntmps44
   go_upto_region 6 with (go_at_call 56; (with_reducible refine (HR.out _).mono ?_); rintro q w' ⟨rfl, hb⟩; replace HB := bt_ HB hb; clear hb)
   obtain ⟨g, hg⟩ : ∃ g, w'.heap.size = g := ⟨_, rfl⟩
   generalize hW : w'.alloc (Obj.cells #[Value.string t, Value.int .i64 x, Value.bool true] 87) = W1
   have BK := md_ (show W1.heap[g]? = some (.cells #[.string t, .int .i64 x, .bool true] 87 (0, 0)) by rw [← hW, ← hg]; exact blk_new _ _)
   replace HB := md_ (show Below w.heap.size w W1 by rw [← hW]; exact below_alloc HB.out _)
   clear hW
   rw [hg]
   clear hg
   have z0 := (blk_cell BK.out 0).trans (show _ = some (Value.string t) from rfl)
   have z1 := (blk_cell BK.out 1).trans (show _ = some (Value.int .i64 x) from rfl)
   have z2 := (blk_cell BK.out 2).trans (show _ = some (Value.bool true) from rfl)
   go_upto_region 7 with (fail)
   go_quiet (fail)
   go_wp2
   go_ret3
   exact ⟨rfl, by repeat (first | exact HB.out | apply pw_below_drewN | apply below_drew)⟩
end Go.Proofs.YtneepokiioefgaaGreatDoor.Dec
set_option maxHeartbeats 32000000
namespace Go.Proofs.YtneepokiioefgaaGreatDoor.Dec
open Go.RowKit Go.Flt Go.Read PDec Go.Proofs.YtneepokiioefgaaGreatDoor.Pure YtneepokiioefgaaGreatDoorW.PrintWords YtneepokiioefgaaGreatDoorW.PrintLast YtneepokiioefgaaGreatDoorW.PrintMore
set_option maxRecDepth 100000 in
theorem r4_Science_odd (w : World) (a : Nat) (ha : a < 18446744073709551616) (hf : ffin a = false) (n : Int) (r : List UInt8) : Calls Tryz.prog 28 #[.int .u64 (a : Int), .int .i64 n] w fun x w' => x = .returned (.string (bs (shownV a r))) ∧ Below w.heap.size w w' := by
 have HO := md_ (fun w => r4_odd w a ha)
 have e1 : oddR a = oddV a := by unfold oddR; rw [hf]; rfl
 have e2 : shownV a r = oddV a := by unfold shownV; rw [hf]; rfl
 have e3 : oddV a ≠ [] := by unfold oddV; split; simp; split <;> simp
 rw [e1] at HO
 rw [e2]
 obtain ⟨aa, haa⟩ : ∃ z : Int, (a : Int) = z := ⟨_, rfl⟩
 obtain ⟨t, ht⟩ : ∃ z, bs (oddV a) = z := ⟨_, rfl⟩
 have k1 : ¬ t.toList = [] := by
  rw [← ht, bs_list]
  exact e3
 have k2 : t.toList.isEmpty = false := by
  rw [Bool.eq_false_iff]
  intro h
  exact k1 (List.isEmpty_iff.1 h)
 rw [haa, ht] at HO
 rw [haa, ht]
 clear e1 e2 e3 ha hf haa ht
 go_enter Tryz.func28, Tryz.ntmps28
 go_wp2_with (go_at_call 43; (with_reducible refine (HO.out _).mono ?_); rintro q w' ⟨rfl, hw⟩; obtain rfl := hw.symm)
 go_ret
 exact ⟨rfl, Below.refl _ _⟩
set_option maxRecDepth 100000 in
theorem r4_Science_fin (w : World) (a : Nat) (ha : a < 18446744073709551616) (hf : ffin a = true) (n : Int) : Calls Tryz.prog 28 #[.int .u64 (a : Int), .int .i64 n] w fun x w' => x = .returned (.string (bs (shownV a (sciV (repText a (many n)) (repExp a (many n)) (zero1 (repText a (many n))))))) ∧ Below w.heap.size w w' := by
 obtain ⟨hm1, hm2⟩ := many_bound n
 obtain ⟨b1, b2⟩ := repExp_bound hf (many n)
 have hl := repText_size hf hm1
 have HO := md_ (fun w => r4_odd w a ha)
 rw [show oddR a = [] by unfold oddR; rw [hf]; rfl] at HO
 obtain ⟨o, ho⟩ : ∃ z, bs [] = z := ⟨_, rfl⟩
 have o1 : o.toList = [] := by rw [← ho]; exact bs_list []
 have o2 : o.toList.isEmpty = true := by rw [o1]; rfl
 rw [ho] at HO
 clear ho
 have HS := md_ (fun w => r4_some w a ha hf n)
 have hg := sgn_len a
 rw [shown_sgn hf]
 have HI := md_ (fun w => r3_IsZero w a ha)
 rw [zero_iff ha hf, ← zero1_many hf hm1] at HI
 obtain ⟨m, hm⟩ : ∃ z, many n = z := ⟨_, rfl⟩
 rw [hm] at HS hm1 hm2 b1 b2 hl
 rw [hm]
 obtain ⟨d, hd⟩ : ∃ z, repText a m = z := ⟨_, rfl⟩
 obtain ⟨e, he⟩ : ∃ z, repExp a m = z := ⟨_, rfl⟩
 rw [hd] at HS hl
 rw [he] at HS b1 b2
 rw [hd, he]
 obtain ⟨sl, hsl⟩ : ∃ z, sgn a = z := ⟨_, rfl⟩
 rw [hsl] at HS hg
 rw [hsl]
 obtain ⟨aa, haa⟩ : ∃ z : Int, (a : Int) = z := ⟨_, rfl⟩
 have hdl : (d.length : Int) = m := by omega
 obtain ⟨u0, hu0⟩ : ∃ z, bs sl = z := ⟨_, rfl⟩
 obtain ⟨s, hs⟩ : ∃ z, bs d = z := ⟨_, rfl⟩
 have hsz : (s.size : Int) = m := by rw [← hs, bs_size]; exact hdl
 rw [hu0, hs] at HS
 rw [haa] at HO HS
 rw [haa]
 have HB := md_ (Below.refl w.heap.size w)
 obtain ⟨z, hz⟩ : ∃ z, zero1 d = z := ⟨_, rfl⟩
 rw [hm, hd, hz, haa] at HI
 rw [hz]
 unfold sciV
 obtain ⟨x, hx⟩ : ∃ x : Int, (if z then 0 else e - 1) = x := ⟨_, rfl⟩
 have hxb : -1001 ≤ x ∧ x ≤ 1000 := by rw [← hx]; split <;> omega
 rw [hx]
 have lx := decT_le (x := x) (by omega) (by omega)
 have HD := md_ (fun w => r_Decimal w x (by omega) (by omega))
 obtain ⟨r, hr⟩ : ∃ z, bs (sl ++ [d.take 1, [46], d.drop 1, [69], decT x].flatten) = z := ⟨_, rfl⟩
 obtain ⟨t, ht⟩ : ∃ s, bs (d.take 1) = s := ⟨_, rfl⟩
 obtain ⟨u, hu⟩ : ∃ s, bs (d.drop 1) = s := ⟨_, rfl⟩
 obtain ⟨v, hv⟩ : ∃ s, bs (decT x) = s := ⟨_, rfl⟩
 have y1 : s.extract 0 1 = t := by rw [← hs, bs_to]; exact ht
 have y2 : s.extract 1 s.size = u := by rw [← hs, bs_from]; exact hu
 have y4 : (1 : Int) ≤ (s.size : Nat) := by omega
 have y5 : 1 ≤ s.size := by omega
 rw [hv] at HD
 rw [hr]
 have q0 : u0.size ≤ 1 := by rw [← hu0, bs_size]; exact hg
 have q1 : t.size ≤ 100000 := by rw [← ht, bs_size]; (try simp); omega
 have z1 : ¬ 9223372036854775807 < u0.size + t.size := by omega
 have z2 : ¬ 9223372036854775807 < u0.size + t.size + 1 := by omega
 have q3 : u.size ≤ 100000 := by rw [← hu, bs_size]; (try simp); omega
 have z3 : ¬ 9223372036854775807 < u0.size + t.size + 1 + u.size := by omega
 have z4 : ¬ 9223372036854775807 < u0.size + t.size + 1 + u.size + 1 := by omega
 have q5 : v.size ≤ 100000 := by rw [← hv, bs_size]; (try simp); omega
 have z5 : ¬ 9223372036854775807 < u0.size + t.size + 1 + u.size + 1 + v.size := by omega
 have htot : u0 ++ t ++ ⟨#[46]⟩ ++ u ++ ⟨#[69]⟩ ++ v = r := by
  rw [← hu0, ← ht, show (⟨#[46]⟩ : ByteArray) = bs [46] from rfl, ← hu, show (⟨#[69]⟩ : ByteArray) = bs [69] from rfl, ← hv, ← hr, bs_app, bs_app, bs_app, bs_app, bs_app]
  congr 1
  simp
 have HTOT := md_ htot
 clear htot
 have W1 := wrp (x := e - 1) (y := e - 1) (by omega)
 clear ha hf hm hm1 hm2 b1 b2 hl hg hd he hsl haa hdl hsz hu0 hs hr ht hu hv hxb lx hz q0 q1 q3 q5
 obtain ⟨w1, w2⟩ := W1.out
 clear W1
 cases z with
 | true =>
  have hx0 : x = 0 := hx.symm
  subst hx0
  clear hx
  go_enter Tryz.func28, Tryz.ntmps28
  go_upto_region 6 with (first | (go_at_call 43; (with_reducible refine (HO.out _).mono ?_); rintro q w' ⟨rfl, hw⟩; obtain rfl := hw.symm) | (go_at_call 44; (with_reducible refine (HS.out _).mono ?_); rintro q w' ⟨rfl, hb⟩; replace HB := bt_ HB hb; clear hb) | (go_at_call 45; (with_reducible refine (HI.out _).mono ?_); rintro q w' ⟨rfl, hw⟩; obtain rfl := hw.symm))
  go_region_held3 (fun w' => Below w.heap.size w w')
   (first | assumption | exact HB.out | exact below_drew (by assumption) | exact below_drew HB.out | exact Below.trans (by assumption) (hb_.mono (Below.size (by assumption))))
   ((go_at_call 46; (refine (HD.out _).mono ?_); rintro q w2 ⟨rfl, hb_⟩))
  go_wp2
  go_ret
  exact ⟨by first | rfl | (rw [HTOT.out] <;> rfl), by assumption⟩
 | false =>
  have hx0 : e - 1 = x := hx
  rw [hx0] at w1 w2
  have w3 : wrap64 (e - 1) = x := by rw [hx0]; exact w1
  have w4 : IntKind.i64.wrap (e - 1) = x := (i64_w _).trans w3
  clear hx hx0
  go_enter Tryz.func28, Tryz.ntmps28
  go_upto_region 6 with (first | (go_at_call 43; (with_reducible refine (HO.out _).mono ?_); rintro q w' ⟨rfl, hw⟩; obtain rfl := hw.symm) | (go_at_call 44; (with_reducible refine (HS.out _).mono ?_); rintro q w' ⟨rfl, hb⟩; replace HB := bt_ HB hb; clear hb) | (go_at_call 45; (with_reducible refine (HI.out _).mono ?_); rintro q w' ⟨rfl, hw⟩; obtain rfl := hw.symm))
  go_region_held3 (fun w' => Below w.heap.size w w')
   (first | assumption | exact HB.out | exact below_drew (by assumption) | exact below_drew HB.out | exact Below.trans (by assumption) (hb_.mono (Below.size (by assumption))))
   ((go_at_call 46; (refine (HD.out _).mono ?_); rintro q w2 ⟨rfl, hb_⟩))
  go_wp2
  go_ret
  exact ⟨by first | rfl | (rw [HTOT.out] <;> rfl), by assumption⟩
theorem r4_Science (w : World) (a : Nat) (ha : a < 18446744073709551616) (n : Int) : Calls Tryz.prog 28 #[.int .u64 (a : Int), .int .i64 n] w fun x w' => x = .returned (.string (bs (shownV a (sciV (repText a (many n)) (repExp a (many n)) (zero1 (repText a (many n))))))) ∧ Below w.heap.size w w' := by
 cases hf : ffin a with
 | false => exact r4_Science_odd w a ha hf n _
 | true => exact r4_Science_fin w a ha hf n
end Go.Proofs.YtneepokiioefgaaGreatDoor.Dec
namespace Go.Proofs.YtneepokiioefgaaGreatDoor.Pools
open Go.Flt Go.Read
open Go.RowKit Go.Toks Go.Proofs.YtneepokiioefgaaGreatDoorW.PrintWords Go.Proofs.YtneepokiioefgaaGreatDoorW.PrintLast Go.Proofs.YtneepokiioefgaaGreatDoorW.PrintMore
theorem sci_len (u : Nat) : (Go.Proofs.YtneepokiioefgaaGreatDoor.Dec.shownV u (Go.Proofs.YtneepokiioefgaaGreatDoor.Dec.sciV (repText u (many 17)) (repExp u (many 17)) (Go.Proofs.YtneepokiioefgaaGreatDoor.Dec.zero1 (repText u (many 17))))).length ≤ 2000 := by
 unfold Go.Proofs.YtneepokiioefgaaGreatDoor.Dec.shownV
 cases hf : Go.Proofs.YtneepokiioefgaaGreatDoor.Dec.ffin u with
 | false =>
  rw [if_neg (by decide)]
  unfold Go.Proofs.YtneepokiioefgaaGreatDoor.Dec.oddV
  split
  ·decide
  ·split <;> decide
 | true =>
  obtain ⟨hm1, hm2⟩ := Go.Proofs.YtneepokiioefgaaGreatDoor.Dec.many_bound 17
  obtain ⟨b1, b2⟩ := Go.Proofs.YtneepokiioefgaaGreatDoor.Dec.repExp_bound hf (many 17)
  have hl := repText_size hf hm1
  have h := Go.Proofs.YtneepokiioefgaaGreatDoor.Dec.sciV_len (d := repText u (many 17)) (e := repExp u (many 17)) (z := Go.Proofs.YtneepokiioefgaaGreatDoor.Dec.zero1 (repText u (many 17))) (by omega) b1 b2
  rw [if_pos rfl]
  split
  ·rw [List.length_cons]; omega
  ·omega
theorem pow_on {w0 w : World} (HT : Pow w0) (h : Below w0.heap.size w0 w) : Pow w := fun w' h' => HT w' (h.trans (h'.mono h.size))
/-- both texts of a token are one -/
theorem shows (w0 : World) (HT : Pow w0) (op a b : Int) (ha0 : -9223372036854775808 ≤ a) (ha1 : a ≤ 9223372036854775807) (hb0 : -9223372036854775808 ≤ b) (hb1 : b ≤ 9223372036854775807) (nm : List UInt8) (hn : nm.length ≤ 300) :
  ∃ v : ByteArray, (∀ w, Below w0.heap.size w0 w → Calls Tryz.prog 8 #[.agg #[.int .i64 op, .int .i64 a, .int .i64 b], .string (by_ nm)] w fun e w' => e = .returned (.string v) ∧ Below w.heap.size w w') ∧
   (∀ w, Calls Tryz.prog 9 #[.agg #[.int .i64 op, .int .i64 a, .int .i64 b], .string (by_ nm)] w fun e w' => e = .returned (.string v) ∧ Below w.heap.size w w') := by
 obtain ⟨s, k, hr⟩ := row_of op
 have hs := row_len hr
 have la := Lib.itoa_length_le a ha0 ha1
 have lb := Lib.itoa_length_le b hb0 hb1
 rcases row_kind hr with rfl | rfl | rfl | rfl | rfl
 ·exact ⟨_, fun w HB => show_bare w hr a b nm w (Below.refl _ _) (by rw [len1]; omega), fun w => rshow_bare hr a b nm w⟩
 ·exact ⟨_, fun w HB => show_named w hr a b nm w (Below.refl _ _) (by rw [len2]; omega), fun w => rshow_named hr a b nm hn w⟩
 ·obtain ⟨u, hu, hu2⟩ : ∃ u : Nat, IntKind.u64.wrap a = (u : Int) ∧ u < 18446744073709551616 := ⟨(a % 18446744073709551616).toNat, by rw [IntKind.wrap_u64]; omega, by omega⟩
  have lx := sci_len u
  exact ⟨_, fun w HB => show_float w hr a b u hu _ ⟨fun w1 hb => Go.Proofs.YtneepokiioefgaaGreatDoor.Dec.d_Science w0 HT w1 (HB.trans (hb.mono HB.size)) u hu2 17⟩ nm w (Below.refl _ _) (by rw [len2]; omega), fun w => rshow_float hr a b u hu _ lx ⟨fun w => Go.Proofs.YtneepokiioefgaaGreatDoor.Dec.r4_Science w u hu2 17⟩ nm w⟩
 ·exact ⟨_, fun w HB => show_one w (pow_on HT HB) hr a b ha0 ha1 nm w (Below.refl _ _) (by rw [len2]; omega), fun w => rshow_one hr a b ha0 ha1 nm w⟩
 ·exact ⟨_, fun w HB => show_two4 w (pow_on HT HB) hr a b ha0 ha1 hb0 hb1 nm w (Below.refl _ _) (by rw [len3]; omega), fun w => rshow_two4 hr a b ha0 ha1 hb0 hb1 nm w⟩
set_option maxRecDepth 100000 in
theorem show_law (op a b : Int) (ha0 : -9223372036854775808 ≤ a) (ha1 : a ≤ 9223372036854775807) (hb0 : -9223372036854775808 ≤ b) (hb1 : b ≤ 9223372036854775807) (name : ByteArray) (W : World) (HT : Pow W) :
  Calls Tryz.prog 3 #[.agg #[.int .i64 op, .int .i64 a, .int .i64 b], .string name] W fun e W' => e = .returned (.bool true) ∧ Below W.heap.size W W' := by
 have HB := Aside0.mk (Below.refl W.heap.size W)
 by_cases h : name.size ≤ 300
 ·obtain ⟨v, h1, h2⟩ := shows W HT op a b ha0 ha1 hb0 hb1 name.data.toList (by show name.data.size ≤ 300; exact h)
  rw [show by_ name.data.toList = name from rfl] at h1 h2
  have H1 := Aside0.mk h1
  have H2 := Aside0.mk h2
  have HA := Aside0.mk (fun w hb => awake_any w (pow_on HT hb) w (Below.refl _ _))
  have J1 := Aside0.mk (fun w => t_jumps op w)
  have J2 := Aside0.mk (fun w => r_jumps op w)
  have c1 := decide_eq_false (show ¬ (300 : Int) < (name.size : Nat) by omega)
  generalize jumpB op = j at *
  clear h h1 h2 HT ha0 ha1 hb0 hb1
  cases j <;> (go_enter Tryz.func3, Tryz.ntmps3; go_upto_region 1 with (fail); generalize ewx : (W.alloc (Obj.cells #[Value.int IntKind.i64 op, Value.int IntKind.i64 a, Value.int IntKind.i64 b] 23)) = wx; have HBX : Below W.heap.size W wx := (by rw [← ewx]; exact below_alloc HB.out _); have hx0 : wx.cell? ⟨W.heap.size, 0, none⟩ = some (.int .i64 op) := (by rw [← ewx, blk_cell (blk_new W _)]; rfl); have hx1 : wx.cell? ⟨W.heap.size, 1, none⟩ = some (.int .i64 a) := (by rw [← ewx, blk_cell (blk_new W _)]; rfl); have hx2 : wx.cell? ⟨W.heap.size, 2, none⟩ = some (.int .i64 b) := (by rw [← ewx, blk_cell (blk_new W _)]; rfl); clear ewx HB; go_region_held3 (fun w' => w'.cell? ⟨W.heap.size, 0, none⟩ = some (.int .i64 op) ∧ w'.cell? ⟨W.heap.size, 1, none⟩ = some (.int .i64 a) ∧ w'.cell? ⟨W.heap.size, 2, none⟩ = some (.int .i64 b) ∧ Below W.heap.size W w')
  (((try go_split_ands); refine ⟨?_, ?_, ?_, ?_⟩ <;> first
   | assumption
   | exact pw_cell_below hb_ (by assumption)
   | exact pw_cell_below (below_drew (Below.refl _ _)) (by assumption)
   | exact below_drew (by assumption)
   | exact Below.trans (by assumption) (hb_.mono (Below.size (by assumption)))))
  (first
   | (go_at_call 8; go_split_ands; refine (H1.out _ (by assumption)).mono ?_; rintro q w2 ⟨rfl, hb_⟩)
   | (go_at_call 9; refine (H2.out _).mono ?_; rintro q w2 ⟨rfl, hb_⟩)
   | (go_at_call 10; refine (J1.out _).mono ?_; rintro q w2 ⟨rfl, hw⟩; obtain rfl := hw.symm)
   | (go_at_call 11; refine (J2.out _).mono ?_; rintro q w2 ⟨rfl, hw⟩; obtain rfl := hw.symm)
   | (go_at_call 12; go_split_ands; refine (HA.out _ (by assumption)).mono ?_; rintro q w2 ⟨rfl, hb_⟩)); (try go_split_ands); go_wp2; go_ret; exact ⟨rfl, by assumption⟩)
 ·have c1 := decide_eq_true (show (300 : Int) < (name.size : Nat) by omega)
  clear HT ha0 ha1 hb0 hb1 h
  go_enter Tryz.func3, Tryz.ntmps3
  go_upto_region 1 with (fail)
  go_quiet (fail)
  go_wp2
  go_ret
  exact ⟨rfl, by repeat (first | exact HB.out | apply pw_below_drewN | apply below_drew | apply below_alloc)⟩
end Go.Proofs.YtneepokiioefgaaGreatDoor.Pools
namespace Go.Proofs.YtneepokiioefgaaGreatDoor.tokensShow
open Go.ChangeShapes Go.WideShapes Go.ChangeAt Go.RowKit Go.Toks Go.Proofs.YtneepokiioefgaaGreatDoorW.PrintWords
open Go.ChangeMaps (open_string shut_string)
theorem own : ownKnob Tryz.prog.godebug = none := by kernel_rfl
theorem laidOut : laidOutB Tryz.prog = true := by kernel_rfl
theorem powers {W : World} (h : laidMetH Tryz.prog Rows.tokensShowRow.laid W) : Pools.Pow W := by
 have h1 := h.filter (fun x => x.1 == "internal/strconv.uint64pow10")
 rw [show Rows.tokensShowRow.laid.filter (fun x => x.1 == "internal/strconv.uint64pow10") = [("internal/strconv.uint64pow10", Lib.tabData .u64 Lib.pow10Tab)] by kernel_rfl] at h1
 rw [MakeChecks.laidMetH_plain _ _ _ (by kernel_rfl)] at h1
 exact Lib.tabBelow_of_tabIs (Lib.tabIs_of_head (g := 0) (by kernel_rfl) (by kernel_rfl) Tryz.underlying136 Tryz.underlying60 (by kernel_rfl) (by kernel_rfl) h1)
theorem wf64 {a : Int} (h : (Lit.int .i64 a).wf = true) : -9223372036854775808 ≤ a ∧ a ≤ 9223372036854775807 := by
 unfold Lit.wf at h
 rw [Bool.and_eq_true, decide_eq_true_iff, decide_eq_true_iff] at h
 exact h
set_option maxRecDepth 100000 in
/-- a token by value: three numbers -/
theorem open_tok {H : Type} {enc : TypeId × Value → H} {W : World} {base : Nat} {spare : Nat → Bool} {held : Bool} {r : Reach} {b0 : Nat} {v : Value} {d : DataW H} {p : List MemPlace} (hv : Value.okWide Tryz.prog W r b0 23 v) (h : DataW.Trod enc Tryz.prog W base spare held 23 v d p) :
  ∃ a b c : Int, v = .agg #[.int .i64 a, .int .i64 b, .int .i64 c] ∧ (-9223372036854775808 ≤ a ∧ a ≤ 9223372036854775807) ∧ (-9223372036854775808 ≤ b ∧ b ≤ 9223372036854775807) ∧ (-9223372036854775808 ≤ c ∧ c ≤ 9223372036854775807) := by
 obtain ⟨cs, rfl, hsz⟩ := okWide_struct Tryz.underlying23 hv
 obtain ⟨l⟩ := cs
 match l, hsz.trans (show Tryz.prog.cellsOf 23 = 3 by kernel_rfl) with
 | [c0, c1, c2], _ =>
  obtain ⟨fuel, hf⟩ := h
  obtain ⟨xs, n, _, hx, _, hlen, hg⟩ := DataW.trod_struct Tryz.underlying23 hf
  have k3 : Tryz.prog.cellsOf 3 = 1 := by kernel_rfl
  match xs, hlen with
  | [y0, y1, y2], _ =>
   have g0 : DataW.trod enc Tryz.prog W base spare held n 3 [c0] = some y0 := by simpa [Value.cells, k3] using hg 0 _ rfl
   have g1 : DataW.trod enc Tryz.prog W base spare held n 3 [c1] = some y1 := by simpa [Value.cells, k3] using hg 1 _ rfl
   have g2 : DataW.trod enc Tryz.prog W base spare held n 3 [c2] = some y2 := by simpa [Value.cells, k3] using hg 2 _ rfl
   obtain ⟨n0, e0, -, f0⟩ := DataW.trod_int Tryz.underlying3 g0
   obtain ⟨n1, e1, -, f1⟩ := DataW.trod_int Tryz.underlying3 g1
   obtain ⟨n2, e2, -, f2⟩ := DataW.trod_int Tryz.underlying3 g2
   simp only [List.cons.injEq, and_true] at e0 e1 e2
   subst e0 e1 e2
   exact ⟨n0, n1, n2, rfl, wf64 f0, wf64 f1, wf64 f2⟩
set_option maxRecDepth 100000 in
theorem lifted (os : Os) (started : os.Started) (H : Type) (enc : TypeId × Value → H) :
  ReturnsInHanded {} Tryz.checked os 3 .any (fun w args => (Rows.tokensShowSpec.pre enc Tryz.prog Tryz.f3 Rows.tokensShowRow.domain false w args ∧ laidMetH Tryz.prog Rows.tokensShowRow.laid w) ∧ sizedMet enc Tryz.prog Tryz.f3 (OpenSpec.ofChange Rows.tokensShowSpec) false w args) (Rows.tokensShowSpec.post enc Tryz.prog Tryz.f3 false true false false) := by
 refine returnsInHanded_of_change_and (C := Tryz.checked) (X := fun w _ => laidMetH Tryz.prog Rows.tokensShowRow.laid w) (fun _ _ _ hh h => h.of_heap hh) own started (by kernel_rfl) Tryz.func3
  (ChangeSpec.witness_shaped (enc := enc) (C := Tryz.checked) (os := os) (X := fun w _ => laidMetH Tryz.prog Rows.tokensShowRow.laid w) false (World.laidAll Tryz.prog os Rows.tokensShowRow.laid) #[.agg #[.int .i64 0, .int .i64 0, .int .i64 0], .string ⟨#[]⟩] 8 (World.laidAll_os _ _ _)
   (World.shaped_of_ZipB (by kernel_rfl) (by kernel_rfl)) (by kernel_rfl) (by kernel_rfl) (by kernel_rfl)
   (by rw [MakeChecks.laidMetH_plain _ _ _ (by kernel_rfl)]; exact laidMet_laidAll _ (by kernel_rfl) (by kernel_rfl))) ?_
 intro W base args ds gs before hval0 hW hcnd hsz0 hlaid _
 have hsz : (DataW.weightsEach Tryz.prog (Tryz.f3.params.toList ++ Rows.tokensShowSpec.plain.varTypes Tryz.prog) (ds ++ gs)).all (· ≤ reachBytes) = true := hsz0
 have hval : ∀ (j : Nat) t v, Tryz.f3.params[j]? = some t → args[j]? = some v → Value.okWide Tryz.prog W .any base t v := hval0
 have HPOW := powers hlaid
 have hW' := hW
 obtain ⟨p, q, hA0, hV, rfl, hfz, hnd⟩ := hW
 have hA : DataW.TrodAll enc Tryz.prog W 0 (fun _ => true) true Tryz.f3.params.toList args.toList ds p := hA0
 rw [Tryz.params3] at hA hval hsz
 obtain ⟨v0, vs0, d0, ds0, p0, q0, hargs, rfl, rfl, h0, r0⟩ := trodAll_cons hA
 obtain ⟨v1, vs1, d1, ds1, p1, q1, rfl, rfl, rfl, h1, r1⟩ := trodAll_cons r0
 obtain ⟨rfl, rfl, rfl⟩ := trodAll_nil r1
 obtain rfl : args = #[v0, v1] := by cases args; simp_all
 obtain ⟨rfl, rfl⟩ := trodVars_none hV
 have k0 := h0
 have lt0 : ∀ x ∈ p0, x.block < W.heap.size := by obtain ⟨m, hm⟩ := k0; exact DataW.trod_lt m _ _ _ hm
 obtain ⟨o0, a0, b0, rfl, wo, wa, wb⟩ := open_tok (hval 0 23 v0 rfl rfl) h0
 obtain ⟨a1, rfl, rfl, rfl, y1⟩ := open_string Tryz.underlying9 (hval 1 9 v1 rfl rfl) h1
 clear hA0 hval0 hsz0 hsz
 refine (Pools.show_law o0 a0 b0 wa.1 wa.2 wb.1 wb.2 a1 W HPOW).mono fun e W' ⟨he, bel⟩ => ?_
 subst he
 exact ⟨_, rfl, _, _, _, [], _, [], hW', trodAll_mk1 (shut_bool Tryz.underlying4 _), (trodAll_cons_mk (Below.trod laidOut (by kernel_rfl) (of_decide_eq_true (by kernel_rfl)) k0 bel lt0) (trodAll_cons_mk (shut_string Tryz.underlying9 y1) trodAll_mk0)), rfl, bel.frame _, fun h => by cases h⟩
theorem over : Rows.tokensShowRow.holds Tryz.pinned (OpenSpec.ofChange Rows.tokensShowSpec) :=
 OpenClaim.holds_of_wide 3 Tryz.f3 rfl rfl rfl rfl rfl rfl rfl ⟨rfl, rfl, rfl, rfl, rfl⟩ rfl rfl rfl rfl rfl (by kernel_rfl) Tryz.func3 (by kernel_rfl)
  (of_decide_eq_true (by kernel_rfl)) (by unfold Func.isWrapper; first | (rw [if_pos (by decide +kernel)]; kernel_rfl) | (rw [if_neg (by decide +kernel)]; exact ⟨rfl, rfl⟩))
  (fun os started H enc _ => lifted os started H enc)
theorem proved : Rows.TokensShowSaid := over
#print axioms proved
end Go.Proofs.YtneepokiioefgaaGreatDoor.tokensShow
namespace Go.Proofs.YtneepokiioefgaaGreatDoor
/-- The tied card of the row. -/
theorem tokensShow_card : Rows.TokensShowCardSaid :=
 Claim7.holds_tied_plain_at .later [] [.data, .data, .data, .data, .pinned] true (true, "64d2bffa6d20fc99deb5ea35321e912089093c95a3b9f0239533feb4298cc081") false tokensShow.proved (fun _ h => by cases h) (by kernel_rfl) (fun _ h => by cases h) tokensShow_row_tie rfl ⟨rfl, rfl⟩ (by kernel_rfl) rfl
  (fun f fn hf hfn => by
   obtain rfl : f = 3 := Option.some.inj ((show Tryz.prog.funcNamed "bobbin/bobbinlaw15.TokensShow" = some 3 by kernel_rfl).symm.trans hf) |>.symm
   obtain rfl : fn = Tryz.f3 := (Option.some.inj (Tryz.func3.symm.trans hfn)).symm
   exact ⟨by kernel_rfl, fun j t ht => by
    rw [Tryz.params3] at ht
    have hm : t ∈ [23, 9] := by simpa using Array.mem_of_getElem? ht
    have hall : ([23, 9].all fun u => !Tryz.prog.wantsStandIn u) = true := by kernel_rfl
    exact (show Tryz.prog.wantsStandIn t = false by simpa using List.all_eq_true.1 hall t hm)⟩)
  (by kernel_rfl)
#print axioms tokensShow_card
end Go.Proofs.YtneepokiioefgaaGreatDoor
