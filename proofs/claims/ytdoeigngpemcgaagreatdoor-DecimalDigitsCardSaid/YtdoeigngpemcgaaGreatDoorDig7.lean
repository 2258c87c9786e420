/- Over any float and any number of digits the law DecimalDigits answers true: both sides tell the same digits, exponent, sign and error; no condition. This is part 7 of 7: what the session's printing program wrote for the functions reached, and the session's own lemmas. -/
import Derived.Below
import Derived.Carry
import Derived.ChangeOld
import Derived.LaidOnce
import Derived.LaidSub
import Derived.Lay
import Derived.Lib.AppendIntMem
import Derived.Lib.LaidTab
import Derived.OpenShut
import Derived.ProofKit
import Derived.SevenTiedAt
import Derived.ShutString
import Derived.SizedLaws
import Derived.WalkKit
import Derived.Test.YtdoeigngpemcgaaGreatDoorCards
import Derived.Test.YtdoeigngpemcgaaGreatDoorDig2
import Derived.Test.YtdoeigngpemcgaaGreatDoorDig6
import Derived.Test.YtdoeigngpemcgaaGreatDoorRows
import Derived.Test.YtdoeigngpemcgaaGreatDoorTie
set_option maxHeartbeats 32000000
set_option linter.unusedVariables false
set_option linter.unusedSimpArgs false
namespace Go.Proofs.YtdoeigngpemcgaaGreatDoor.Dec
open Go.RowKit Go.Flt Go.Read Go.Proofs.YtdoeigngpemcgaaGreatDoor.PDec Go.Proofs.YtdoeigngpemcgaaGreatDoor.Pure Go.Proofs.YtdoeigngpemcgaaGreatDoorW.PrintWords Go.Proofs.YtdoeigngpemcgaaGreatDoorW.PrintLast Go.Proofs.YtdoeigngpemcgaaGreatDoorW.PrintMore
attribute [local go_sem] max2_int min2_int max_two min_two max_three min_three max_four min_four
theorem join_nil (l : List (List UInt8)) : Lib.join l [] = l.flatten := by
 unfold Lib.join
 induction l with
 | nil => rfl
 | cons a t ih =>
  cases t with
  | nil => simp [List.intercalate]
  | cons b r =>
   rw [List.flatten_cons, ← ih]
   simp [List.intercalate, List.intersperse]
theorem d_zeros (w : World) (n : Int) (h1 : n ≤ 1000000) : Calls Tryz.prog 53 #[.int .i64 n] w fun e w' => e = .returned (.string (bs (List.replicate n.toNat 48))) ∧ Below w.heap.size w w' := by
 obtain ⟨c, hc⟩ : ∃ c : Int, max n 0 = c := ⟨_, rfl⟩
 have hcb : (if n < 0 then 0 else n) = c := by rw [← hc]; split <;> omega
 have HR := Aside0.mk (fun w => d_Repeat w c (by omega) (by omega))
 rw [show c.toNat = n.toNat by omega] at HR
 obtain ⟨t, ht⟩ : ∃ z, bs (List.replicate n.toNat 48) = z := ⟨_, rfl⟩
 rw [ht] at HR ⊢
 clear ht h1
 have HB := Aside0.mk (Below.refl w.heap.size w)
 go_enter Tryz.func53, Tryz.ntmps53
 go_wp2_with (go_at_call 37; (with_reducible refine (HR.out _).mono ?_); rintro e w' ⟨rfl, hb⟩; replace HB := bt_ HB hb; clear hb)
 go_ret
 exact ⟨rfl, HB.out⟩
theorem d_join (w : World) (k c : Nat) (L : List (List UInt8)) (hc : L.length ≤ c) (hk : k < w.heap.size) (hcells : ∀ j l, L[j]? = some l → w.cell? ⟨k, j, none⟩ = some (.string (bs l))) (hL : L.length ≤ 1000) (hF : L.flatten.length ≤ 1000000) :
  Calls Tryz.prog 50 #[.slice (some ⟨k, 0, none⟩) L.length c] w fun e w' => e = .returned (.string (bs L.flatten)) ∧ Below w.heap.size w w' := by
 have hm : (L.map bs).map (fun x => x.data.toList) = L := by
  rw [List.map_map]
  have : ((fun x : ByteArray => x.data.toList) ∘ bs) = id := by
   funext l
   rfl
  rw [this, List.map_id]
 have HJ : Aside0 (Calls Tryz.prog 107 #[.slice (some ⟨k, 0, none⟩) L.length c, .string ⟨#[]⟩] w fun e w' => e = .returned (.string (bs L.flatten)) ∧ Below w.heap.size w w') := ⟨by
  have h := Tryz.strings_Join k 0 c (L.map bs) ⟨#[]⟩ w (by
   intro j x hj
   rw [List.getElem?_map] at hj
   obtain ⟨l, hl, rfl⟩ := Option.map_eq_some_iff.1 hj
   rw [Nat.zero_add]
   exact hcells j l hl) hk (by rw [List.length_map]; omega) (by rw [List.length_map]; exact hc) (by rw [hm]; show (Lib.join L []).length ≤ _; rw [join_nil]; omega)
  rw [hm, List.length_map] at h
  have e : (⟨#[]⟩ : ByteArray).data.toList = [] := rfl
  rw [e, join_nil] at h
  exact h⟩
 obtain ⟨t, ht⟩ : ∃ z, bs L.flatten = z := ⟨_, rfl⟩
 obtain ⟨n, hn⟩ : ∃ z, L.length = z := ⟨_, rfl⟩
 rw [ht, hn] at HJ
 rw [ht, hn]
 clear ht hcells hL hF hm hc hn
 go_enter Tryz.func50, Tryz.ntmps50
 go_wp2_with (go_at_call 107; (with_reducible refine HJ.out.mono ?_); rintro e w' ⟨rfl, hb⟩; have n0_ := Aside0.mk hb; clear hb; have HB := n0_; clear n0_)
 go_ret
 exact ⟨rfl, HB.out⟩
theorem d_join3 (W W' : World) (x y z : List UInt8) (h : Below (W.alloc (.cells #[.string (bs x), .string (bs y), .string (bs z)] 9)).heap.size (W.alloc (.cells #[.string (bs x), .string (bs y), .string (bs z)] 9)) W') (hl : x.length + y.length + z.length ≤ 1000000) :
  Calls Tryz.prog 50 #[.slice (some ⟨W.heap.size, 0, none⟩) 3 3] W' fun e w' => e = .returned (.string (bs [x, y, z].flatten)) ∧ Below W'.heap.size W' w' := by
 have hB := blk_below (blk_new W (.cells #[.string (bs x), .string (bs y), .string (bs z)] 9)) h
 refine d_join W' W.heap.size 3 [x, y, z] (by simp) (blk_lt hB) ?_ (by simp) (by simp; omega)
 intro j l hj
 match j, hj with
 | 0, hj => cases hj; exact (blk_cell hB 0).trans rfl
 | 1, hj => cases hj; exact (blk_cell hB 1).trans rfl
 | 2, hj => cases hj; exact (blk_cell hB 2).trans rfl
 | j + 3, hj => cases hj
/-- a text without an exponent -/
def fixedV (d : List UInt8) (e n : Int) : List UInt8 :=
 if e < 1 then [[48, 46], List.replicate (-e).toNat 48, d].flatten else if n ≤ e then [d, List.replicate (e - n).toNat 48, [46]].flatten else [d.take e.toNat, [46], d.drop e.toNat].flatten
set_option maxRecDepth 100000 in
theorem d_fixed (w : World) (d : List UInt8) (e n : Int) (z : Bool) (hd : d.length ≤ 1000) (he : -1000 ≤ e) (he2 : e ≤ 1000) (hn : 0 ≤ n) (hn2 : n ≤ d.length) :
  Calls Tryz.prog 52 #[.string (bs d), .int .i64 e, .int .i64 n, .bool z] w fun x w' => x = .returned (.string (bs (fixedV d e n))) ∧ Below w.heap.size w w' := by
 unfold fixedV
 have HB := Aside0.mk (Below.refl w.heap.size w)
 have hb1 : bs [48, 46] = ⟨#[48, 46]⟩ := rfl
 have hb2 : bs [46] = ⟨#[46]⟩ := rfl
 by_cases h1 : e < 1
 ·have c1 := decide_eq_true h1
  have HZ := Aside0.mk (fun w => d_zeros w (-e) (by omega))
  have w1 : wrap64 (-e) = -e := i64_id (by omega) (by omega)
  have w2 : IntKind.i64.wrap (-e) = -e := (i64_w _).trans w1
  have HJ := Aside0.mk (fun (W W' : World) h => d_join3 W W' [48, 46] (List.replicate (-e).toNat 48) d h (by rw [List.length_replicate]; simp; omega))
  obtain ⟨ne, hne⟩ : ∃ z, -e = z := ⟨_, rfl⟩
  rw [if_pos h1]
  rw [hne] at HZ w1 w2 HJ ⊢
  have w3 : wrap64 (-e) = ne := by rw [hne]; exact w1
  have w4 : IntKind.i64.wrap (-e) = ne := (i64_w _).trans w3
  obtain ⟨s, hs⟩ : ∃ s, bs d = s := ⟨_, rfl⟩
  obtain ⟨r, hr⟩ : ∃ s, bs [[48, 46], List.replicate ne.toNat 48, d].flatten = s := ⟨_, rfl⟩
  obtain ⟨t, ht⟩ : ∃ s, bs (List.replicate ne.toNat 48) = s := ⟨_, rfl⟩
  rw [ht] at HZ
  rw [hb1, hs, ht, hr] at HJ
  rw [hs, hr]
  clear h1 hb1 hb2 hs hr ht hne hd he he2 hn hn2
  go_enter Tryz.func52, Tryz.ntmps52
  go_wp2_with (first | (go_at_call 53; (with_reducible refine (HZ.out _).mono ?_); rintro q w' ⟨rfl, hb⟩; replace HB := bt_ HB hb; clear hb) | (go_at_call 50; (refine (HJ.out _ _ (Below.refl _ _)).mono ?_); rintro q w' ⟨rfl, hb⟩; replace HB := Aside0.mk (below_step (below_alloc HB.out _) hb); clear hb))
  go_ret
  exact ⟨rfl, HB.out⟩
 have c1 := decide_eq_false h1
 by_cases h2 : n ≤ e
 ·have c2 := decide_eq_true h2
  have HZ := Aside0.mk (fun w => d_zeros w (e - n) (by omega))
  have w1 : wrap64 (e - n) = e - n := i64_id (by omega) (by omega)
  have w2 : IntKind.i64.wrap (e - n) = e - n := (i64_w _).trans w1
  have HJ := Aside0.mk (fun (W W' : World) h => d_join3 W W' d (List.replicate (e - n).toNat 48) [46] h (by rw [List.length_replicate]; simp; omega))
  obtain ⟨ne, hne⟩ : ∃ z, e - n = z := ⟨_, rfl⟩
  rw [if_neg h1, if_pos h2]
  rw [hne] at HZ w1 w2 HJ ⊢
  have w3 : wrap64 (e - n) = ne := by rw [hne]; exact w1
  have w4 : IntKind.i64.wrap (e - n) = ne := (i64_w _).trans w3
  obtain ⟨s, hs⟩ : ∃ s, bs d = s := ⟨_, rfl⟩
  obtain ⟨r, hr⟩ : ∃ s, bs [d, List.replicate ne.toNat 48, [46]].flatten = s := ⟨_, rfl⟩
  obtain ⟨t, ht⟩ : ∃ s, bs (List.replicate ne.toNat 48) = s := ⟨_, rfl⟩
  rw [ht] at HZ
  rw [hb2, hs, ht, hr] at HJ
  rw [hs, hr]
  clear h1 h2 hb1 hb2 hs hr ht hne hd he he2 hn hn2
  go_enter Tryz.func52, Tryz.ntmps52
  go_wp2_with (first | (go_at_call 53; (with_reducible refine (HZ.out _).mono ?_); rintro q w' ⟨rfl, hb⟩; replace HB := bt_ HB hb; clear hb) | (go_at_call 50; (refine (HJ.out _ _ (Below.refl _ _)).mono ?_); rintro q w' ⟨rfl, hb⟩; replace HB := Aside0.mk (below_step (below_alloc HB.out _) hb); clear hb))
  go_ret
  exact ⟨rfl, HB.out⟩
 ·have c2 := decide_eq_false h2
  rw [if_neg h1, if_neg h2]
  have HJ := Aside0.mk (fun (W W' : World) h => d_join3 W W' (d.take e.toNat) [46] (d.drop e.toNat) h (by rw [List.length_take, List.length_drop]; simp; omega))
  obtain ⟨s, hs⟩ : ∃ s, bs d = s := ⟨_, rfl⟩
  obtain ⟨r, hr⟩ : ∃ s, bs [d.take e.toNat, [46], d.drop e.toNat].flatten = s := ⟨_, rfl⟩
  obtain ⟨t, ht⟩ : ∃ s, bs (d.take e.toNat) = s := ⟨_, rfl⟩
  obtain ⟨u, hu⟩ : ∃ s, bs (d.drop e.toNat) = s := ⟨_, rfl⟩
  have k1 : s.extract 0 e.toNat = t := by rw [← hs, bs_to]; exact ht
  have k2 : s.extract e.toNat s.size = u := by rw [← hs, bs_from]; exact hu
  have k3 : (0 : Int) ≤ e := by omega
  have k4 : e ≤ (s.size : Nat) := by rw [← hs, bs_size]; omega
  rw [hb2, ht, hu, hr] at HJ
  rw [hs, hr]
  clear h1 h2 hb1 hb2 hs hr ht hu hd he he2 hn hn2
  go_enter Tryz.func52, Tryz.ntmps52
  go_upto_region 5 with (fail)
  go_region_held3 (fun w' => Below w.heap.size w w')
   (first | assumption | exact HB.out | exact below_drew (by assumption) | exact below_drew HB.out | exact below_alloc HB.out _ | exact below_drew (below_alloc HB.out _) | exact below_alloc (by assumption) _ | exact below_drew (below_alloc (by assumption) _) | exact Below.trans (by assumption) (hb_.mono (Below.size (by assumption))))
   ((go_at_call 50; (refine (HJ.out _ _ (by repeat (first | exact Below.refl _ _ | apply below_drew))).mono ?_); rintro q w2 ⟨rfl, hb_⟩))
  go_wp2
  go_ret
  exact ⟨rfl, by assumption⟩
end Go.Proofs.YtdoeigngpemcgaaGreatDoor.Dec
namespace Go.Proofs.YtdoeigngpemcgaaGreatDoor.Dec
open Go.RowKit Go.Flt Go.Read Go.Proofs.YtdoeigngpemcgaaGreatDoor.Pure Go.Proofs.YtdoeigngpemcgaaGreatDoorW.PrintWords Go.Proofs.YtdoeigngpemcgaaGreatDoorW.PrintLast Go.Proofs.YtdoeigngpemcgaaGreatDoorW.PrintMore
theorem decL_trim (l : List UInt8) : Num.decL 0 (trim0 l) = Num.decL 0 l := by
 induction l with
 | nil => rfl
 | cons c t ih =>
  unfold trim0
  rw [List.dropWhile_cons]
  by_cases h : c = 48
  ·subst h
   exact ih
  ·rw [if_neg (by simpa using h)]
theorem trim_digs {l : List UInt8} (h : Num.digs l = true) : Num.digs (trim0 l) = true := by
 unfold Num.digs at *
 rw [List.all_eq_true] at *
 exact fun x hx => h x ((List.dropWhile_sublist _).mem hx)
theorem trim_len (l : List UInt8) : (trim0 l).length ≤ l.length := (List.dropWhile_sublist _).length_le
theorem trim_pos {l : List UInt8} (h : Num.digs l = true) (h0 : trim0 l ≠ []) : 10 ^ ((trim0 l).length - 1) ≤ Num.decL 0 l := by
 rw [← decL_trim]
 have hd := trim_digs h
 match ht : trim0 l, h0 with
 | c :: t, _ =>
  rw [ht] at hd
  have hc := Num.digs_mem hd c List.mem_cons_self
  have hne : c ≠ 48 := fun e => by
   have : ∀ (l m : List UInt8) (x : UInt8), l.dropWhile (· == 48) = x :: m → x ≠ 48 := by
    intro l
    induction l with
    | nil => intro m x h; cases h
    | cons a b ih =>
     intro m x h
     rw [List.dropWhile_cons] at h
     by_cases k : a = 48
     ·rw [if_pos (by simpa using k)] at h; exact ih m x h
     ·rw [if_neg (by simpa using k)] at h
      cases h
      exact k
   exact this l t c ht e
  have hn : 48 ≠ c.toNat := fun e => hne (UInt8.toNat_inj.1 e.symm)
  show 10 ^ t.length ≤ Num.decL (0 * 10 + (c.toNat - 48)) t
  rw [Num.decL_acc]
  have : 1 * 10 ^ t.length ≤ (0 * 10 + (c.toNat - 48)) * 10 ^ t.length := Nat.mul_le_mul_right _ (by omega)
  omega
theorem d_float (w : World) (neg : Bool) (l : List UInt8) (hd : Num.digs l = true) (hl : l.length ≤ 400) (e : Int) :
  Calls Tryz.prog 31 #[.bool neg, .string (bs l), .int .i64 e] w fun x w' => x = .returned (.int .u64 ((sg neg (flt (Num.decL 0 l) e) : Nat) : Int)) ∧ Below w.heap.size w w' := by
 have ht : bs (trim0 l) = ⟨(Lib.trimLeftB (bs l).data.toList 48).toArray⟩ := rfl
 have htd := trim_digs hd
 have htl := trim_len l
 have hlt : Num.decL 0 l < 10 ^ l.length := Num.decL_lt l (Num.digs_mem hd)
 by_cases h0 : trim0 l = []
 ·have hz : Num.decL 0 l = 0 := by rw [← decL_trim, h0]; rfl
  rw [hz, flt_nil]
  exact d_float_zero w neg (bs l) _ ht e (.inl (by rw [h0]; rfl))
 have hne : bs (trim0 l) ≠ ⟨#[]⟩ := fun h => h0 (by rw [← bs_list (trim0 l), h]; exact bs_list [])
 have hpos := trim_pos hd h0
 have hpp : 0 < 10 ^ ((trim0 l).length - 1) := Nat.pow_pos (by decide)
 obtain ⟨K, hK⟩ : ∃ K, K = 400 := ⟨_, rfl⟩
 by_cases h1 : e < -900
 ·rw [flt_low (k := K) (by omega) (by omega)]
  ·exact d_float_zero w neg (bs l) _ ht e (.inr h1)
  ·have : Num.decL 0 l * 10 ^ K ≤ 10 ^ l.length * 10 ^ K := Nat.mul_le_mul_right _ (by omega)
   rw [← Nat.pow_add] at this
   exact Nat.le_trans this (Nat.pow_le_pow_right (by decide) (by omega))
 by_cases h2 : 400 < e
 ·rw [flt_high (k := K) (by omega) (by omega)]
  ·exact d_float_inf w neg (bs l) _ ht e hne h2
  ·have : 1 * 10 ^ e.toNat ≤ Num.decL 0 l * 10 ^ e.toNat := Nat.mul_le_mul_right _ (by omega)
   have h4 : 10 ^ K ≤ 10 ^ e.toNat := Nat.pow_le_pow_right (by decide) (by omega)
   omega
 have hdl : (bs (trim0 l)).data.toList = trim0 l := rfl
 by_cases h3 : 0 ≤ e
 ·have h := d_float_pos w neg (bs l) _ ht e hne (by rw [hdl]; exact htd) (by rw [hdl]; omega) h3 (by omega)
  rw [hdl, decL_trim] at h
  have hf : flt (Num.decL 0 l) e = mkN (Num.decL 0 l * 10 ^ e.toNat) 0 := by
   unfold flt
   rw [if_neg (by omega), if_pos h3, fl_one (Nat.mul_pos (by omega) (Nat.pow_pos (by decide)))]
  rw [hf]
  exact h
 ·have h := d_float_neg w neg (bs l) _ ht e hne (by rw [hdl]; exact htd) (by rw [hdl]; omega) (by omega) (by omega) _ rfl
  rw [hdl, decL_trim] at h
  have hf := quo_dec (m := Num.decL 0 l) (d := 10 ^ (-e).toNat) (k := Num.bitsN (10 ^ (-e).toNat) + 70) (by omega) (Nat.pow_pos (by decide)) (by omega)
  have hg : flt (Num.decL 0 l) e = fl (Num.decL 0 l) (10 ^ (-e).toNat) := by
   unfold flt
   rw [if_neg (by omega), if_neg h3]
  rw [hg, ← hf, Nat.mul_comm 2]
  exact h
end Go.Proofs.YtdoeigngpemcgaaGreatDoor.Dec
namespace Go.Flt
open Go.Read Go.Proofs.YtdoeigngpemcgaaGreatDoor Go.Proofs.YtdoeigngpemcgaaGreatDoor.Dec
theorem step10 (m : Nat) (e k : Int) : (rhs e (k + 1) = 10 * rhs e k ∧ lhs m e (k + 1) = lhs m e k) ∨ (rhs e (k + 1) = rhs e k ∧ lhs m e k = 10 * lhs m e (k + 1)) := by
 unfold lhs rhs
 rcases Int.lt_or_le k 0 with c | c
 ·right
  rw [show (k + 1).toNat = 0 by omega, show k.toNat = 0 by omega, show (-k).toNat = (-(k + 1)).toNat + 1 by omega]
  refine ⟨rfl, ?_⟩
  rw [Nat.pow_succ, ← Nat.mul_assoc, Nat.mul_comm _ 10, Nat.mul_assoc 10]
 ·left
  rw [show (k + 1).toNat = k.toNat + 1 by omega, show (-(k + 1)).toNat = 0 by omega, show (-k).toNat = 0 by omega]
  refine ⟨?_, rfl⟩
  rw [Nat.pow_succ, Nat.mul_comm _ 10, Nat.mul_assoc]
theorem scale_ge {m c : Nat} {e k : Int} (j : Nat) (h : c * rhs e (k + j) ≤ lhs m e (k + j)) : c * 10 ^ j * rhs e k ≤ lhs m e k := by
 induction j generalizing c with
 | zero => simpa using h
 | succ j ih =>
  have h1 : c * 10 * rhs e (k + j) ≤ lhs m e (k + j) := by
   rw [show k + ((j + 1 : Nat) : Int) = k + j + 1 by omega] at h
   rcases step10 m e (k + j) with ⟨a, b⟩ | ⟨a, b⟩
   ·rw [a, b] at h
    rw [Nat.mul_assoc]
    exact h
   ·rw [a] at h
    rw [b, Nat.mul_right_comm, Nat.mul_comm _ 10]
    exact Nat.mul_le_mul_left _ h
  have := ih h1
  rw [Nat.pow_succ, Nat.mul_comm _ 10, ← Nat.mul_assoc]
  exact this
theorem scale_lt {m c : Nat} {e k : Int} (j : Nat) (h : lhs m e (k + j) < c * rhs e (k + j)) : lhs m e k < c * 10 ^ j * rhs e k := by
 induction j generalizing c with
 | zero => simpa using h
 | succ j ih =>
  have h1 : lhs m e (k + j) < c * 10 * rhs e (k + j) := by
   rw [show k + ((j + 1 : Nat) : Int) = k + j + 1 by omega] at h
   rcases step10 m e (k + j) with ⟨a, b⟩ | ⟨a, b⟩
   ·rw [a, b] at h
    rw [Nat.mul_assoc]
    exact h
   ·rw [a] at h
    rw [b, Nat.mul_right_comm, Nat.mul_comm _ 10]
    omega
  have := ih h1
  rw [Nat.pow_succ, Nat.mul_comm _ 10, ← Nat.mul_assoc]
  exact this
theorem rhs_pos (e k : Int) : 0 < rhs e k := Nat.mul_pos (Nat.pow_pos (by decide)) (Nat.two_pow_pos _)
theorem near_ge {m c : Nat} {e k : Int} (h : c * rhs e k ≤ lhs m e k) : c ≤ nearN m e k := by
 have h1 : c ≤ lhs m e k / rhs e k := (Nat.le_div_iff_mul_le (rhs_pos e k)).2 h
 unfold nearN
 split <;> omega
theorem near_le {m c : Nat} {e k : Int} (h : lhs m e k < c * rhs e k) : nearN m e k ≤ c := by
 have h1 : lhs m e k / rhs e k < c := (Nat.div_lt_iff_lt_mul (rhs_pos e k)).2 h
 unfold nearN
 split <;> omega
theorem near_dex {m : Nat} {e n D : Int} (hD : Dex m e D) (hn : 1 ≤ n) : 10 ^ (n.toNat - 1) ≤ nearN m e (D - n) ∧ nearN m e (D - n) ≤ 10 ^ n.toNat := by
 constructor
 ·apply near_ge
  have h := hD.1
  unfold rch at h
  rw [decide_eq_true_iff] at h
  have := scale_ge (m := m) (c := 1) (e := e) (k := D - n) (n.toNat - 1) (by rw [Nat.one_mul, show D - n + ((n.toNat - 1 : Nat) : Int) = D - 1 by omega]; exact h)
  rw [Nat.one_mul] at this
  exact this
 ·apply near_le
  have h := hD.2
  unfold rch at h
  rw [decide_eq_false_iff_not] at h
  have := scale_lt (m := m) (c := 1) (e := e) (k := D - n) n.toNat (by rw [Nat.one_mul, show D - n + (n.toNat : Int) = D by omega]; omega)
  rw [Nat.one_mul] at this
  exact this
theorem drop_head (l m : List UInt8) (x : UInt8) (h : l.dropWhile (· == 48) = x :: m) : x ≠ 48 := by
 induction l with
 | nil => cases h
 | cons a b ih =>
  rw [List.dropWhile_cons] at h
  by_cases k : a = 48
  ·rw [if_pos (by simpa using k)] at h; exact ih h
  ·rw [if_neg (by simpa using k)] at h
   cases h
   exact k
theorem textN_trim {v : Nat} (h : v ≠ 0) : trim0 (Num.textN v) = Num.textN v := by
 unfold Num.textN
 rw [if_neg h]
 generalize (Num.pcs v).reverse.flatMap Num.dg9 = l
 cases hl : l.dropWhile (· == 48) with
 | nil => rfl
 | cons x m =>
  unfold trim0
  rw [List.dropWhile_cons, if_neg (by simpa using drop_head l m x hl)]
theorem textN_pow {v : Nat} (h : v ≠ 0) : 10 ^ ((Num.textN v).length - 1) ≤ v ∧ v < 10 ^ (Num.textN v).length := by
 have hd := Pure.textN_digs v
 have h1 := trim_pos hd (by rw [textN_trim h]; exact textN_ne v)
 have h2 := Num.decL_lt _ (Num.digs_mem hd)
 rw [textN_trim h, Pure.textN_dec] at h1
 rw [Pure.textN_dec] at h2
 exact ⟨h1, h2⟩
theorem textN_size {v k : Nat} (h1 : 10 ^ k ≤ v) (h2 : v < 10 ^ (k + 1)) : (Num.textN v).length = k + 1 := by
 have hp : 0 < 10 ^ k := Nat.pow_pos (by decide)
 obtain ⟨a, b⟩ := textN_pow (v := v) (by omega)
 have c1 : k < (Num.textN v).length := by
  rcases Nat.lt_or_ge k (Num.textN v).length with c | c
  ·exact c
  ·have := Nat.pow_le_pow_right (show 0 < 10 by decide) c
   omega
 have c2 : (Num.textN v).length - 1 < k + 1 := by
  rcases Nat.lt_or_ge ((Num.textN v).length - 1) (k + 1) with c | c
  ·exact c
  ·have := Nat.pow_le_pow_right (show 0 < 10 by decide) c
   omega
 omega
theorem pow_pred {n : Int} (hn : 1 ≤ n) : ∃ k, n.toNat = k + 1 ∧ n.toNat - 1 = k ∧ (n : Int) = k + 1 := ⟨n.toNat - 1, by omega, rfl, by omega⟩
/-- n digits, or n + 1 of them when it was rounded up to a power of ten -/
theorem near_text {m : Nat} {e n D : Int} (hD : Dex m e D) (hn : 1 ≤ n) :
  ((Num.textN (nearN m e (D - n))).length = n.toNat ∧ nearN m e (D - n) < 10 ^ n.toNat) ∨ ((Num.textN (nearN m e (D - n))).length = n.toNat + 1 ∧ nearN m e (D - n) = 10 ^ n.toNat) := by
 obtain ⟨h1, h2⟩ := near_dex hD hn
 obtain ⟨k, k1, k2, k3⟩ := pow_pred hn
 rw [k2] at h1
 rcases Nat.lt_or_ge (nearN m e (D - n)) (10 ^ n.toNat) with c | c
 ·left
  rw [k1] at c ⊢
  exact ⟨textN_size h1 c, c⟩
 ·right
  have hq : nearN m e (D - n) = 10 ^ n.toNat := Nat.le_antisymm h2 c
  refine ⟨?_, hq⟩
  apply textN_size c
  rw [hq, Nat.pow_succ]
  have : 0 < 10 ^ n.toNat := Nat.pow_pos (by decide)
  omega
theorem repText_size {a : Nat} (hf : ffin a = true) {n : Int} (hn : 1 ≤ n) : (repText a n).length = n.toNat := by
 unfold repText
 split
 ·rw [List.length_replicate]
 ·have hz : fmant a ≠ 0 := by assumption
  unfold repT
  rw [List.length_take]
  rcases near_text (rep_dex hf hz) hn with ⟨h, _⟩ | ⟨h, _⟩ <;> rw [h] <;> omega
end Go.Flt
namespace Go.Flt
/-- how many digits are shown -/
def many (n : Int) : Int := min (max n 1) 17
end Go.Flt
namespace Go.Proofs.YtdoeigngpemcgaaGreatDoor.Dec
open Go.RowKit Go.Flt Go.Read Go.Proofs.YtdoeigngpemcgaaGreatDoor.PDec Go.Proofs.YtdoeigngpemcgaaGreatDoor.Pure Go.Proofs.YtdoeigngpemcgaaGreatDoorW.PrintWords Go.Proofs.YtdoeigngpemcgaaGreatDoorW.PrintLast Go.Proofs.YtdoeigngpemcgaaGreatDoorW.PrintMore
attribute [local go_sem] max2_int min2_int max_two min_two max_three min_three max_four min_four
/-- the first digit is a zero -/
def zero1 (l : List UInt8) : Bool := l.head? == some 48
/-- Inf, -Inf or NaN -/
def oddV (a : Nat) : List UInt8 := if a = 9218868437227405312 then [73, 110, 102] else if a = 18442240474082181120 then [45, 73, 110, 102] else [78, 97, 78]
/-- what shown makes of what is done with the digits -/
def shownV (a : Nat) (r : List UInt8) : List UInt8 := if ffin a then (if fneg a then 45 :: r else r) else oddV a
theorem head_fact {l : List UInt8} (h : l ≠ []) : ∃ c : Nat, (∀ h, ((bs l)[0]'h).toNat = c) ∧ ((c : Int) == 48) = zero1 l ∧ 0 < (bs l).size := by
 match l, h with
 | x :: t, _ =>
  refine ⟨x.toNat, fun h => rfl, ?_, by rw [bs_size, List.length_cons]; omega⟩
  unfold zero1
  rw [List.head?_cons]
  by_cases k : x = 48
  ·subst k; rfl
  ·have k1 : ((some x : Option UInt8) == some 48) = false := by simpa using k
   rw [k1, beq_eq_false_iff_ne]
   have k2 : x.toNat ≠ 48 := fun e => k (UInt8.toNat_inj.1 e)
   omega
set_option maxRecDepth 100000 in
theorem s_Neg_inf (w : World) : Calls Tryz.prog 106 #[.int .u64 9218868437227405312] w fun e w' => e = .returned (.int .u64 18442240474082181120) ∧ Below w.heap.size w w' := by
 have HN : Aside0 (∀ w, Calls Tryz.prog 59 #[.int .u64 9218868437227405312] w fun e w' => e = .returned (.bool false) ∧ Drawn0 w w') := ⟨fun w => s_isNaN w 9218868437227405312 (by decide)⟩
 have hx : bits .xor .u64 9218868437227405312 9223372036854775808 = 18442240474082181120 := by decide +kernel
 have HB := Aside0.mk (Below.refl w.heap.size w)
 go_enter Tryz.func106, Tryz.ntmps106
 go_wp2_with (go_at_call 59; (with_reducible refine (HN.out _).mono ?_); rintro e w' ⟨rfl, ⟨nd, rfl⟩⟩)
 go_ret
 exact ⟨by first | rfl | rw [hx], by repeat (first | exact HB.out | apply pw_below_drewN)⟩
set_option maxRecDepth 100000 in
theorem d_shown_fixed (w : World) (a : Nat) (ha : a < 18446744073709551616) (hf : ffin a = true) (n : Int) (r : List UInt8) (hr : r.length ≤ 1000000) (w0 : World) (hw0 : Below w0.heap.size w0 w)
  (HF : ∀ w, Below w0.heap.size w0 w → Calls Tryz.prog 52 #[.string (bs (repText a (many n))), .int .i64 (repExp a (many n)), .int .i64 (many n), .bool (zero1 (repText a (many n)))] w fun x w' => x = .returned (.string (bs r)) ∧ Below w.heap.size w w') :
  Calls Tryz.prog 48 #[.int .u64 (a : Int), .int .i64 n, .func (.func 52) #[] #[]] w fun x w' => x = .returned (.string (bs (if fneg a then 45 :: r else r))) ∧ Below w0.heap.size w0 w' := by
 obtain ⟨mx, hm0⟩ : ∃ z, max n 1 = z := ⟨_, rfl⟩
 obtain ⟨m, hm⟩ : ∃ z, min mx 17 = z := ⟨_, rfl⟩
 have hmm : many n = m := by unfold many; rw [hm0, hm]
 have hm1 : (if n < 1 then 1 else n) = mx := by rw [← hm0]; split <;> omega
 have hm2 : (if 17 < mx then 17 else mx) = m := by rw [← hm]; split <;> omega
 rw [hmm] at HF
 have HR := Aside0.mk (fun w => d_Rep w a ha hf m (by omega) (by omega))
 obtain ⟨c0, hc1, hc2, hc3⟩ := head_fact (repText_ne (a := a) (n := m) (by omega))
 obtain ⟨t, ht⟩ : ∃ z, bs (repText a m) = z := ⟨_, rfl⟩
 have hc4 : decide ((c0 : Int) = 48) = zero1 (repText a m) := by rw [← hc2]; exact (Bool.beq_eq_decide_eq _ _).symm
 obtain ⟨zf, hzf⟩ : ∃ z, zero1 (repText a m) = z := ⟨_, rfl⟩
 obtain ⟨x, hx⟩ : ∃ z, repExp a m = z := ⟨_, rfl⟩
 obtain ⟨aa, haa⟩ : ∃ z : Int, (a : Int) = z := ⟨_, rfl⟩
 obtain ⟨neg, hneg⟩ : ∃ z, fneg a = z := ⟨_, rfl⟩
 obtain ⟨u, hu⟩ : ∃ z, bs r = z := ⟨_, rfl⟩
 have hcat : ⟨#[45]⟩ ++ u = bs (45 :: r) := by rw [← hu]; apply ByteArray.ext; simp [bs]
 have hsz : ¬ 9223372036854775807 < 1 + u.size := by rw [← hu, bs_size]; omega
 rw [ht, hx, hzf, hu] at HF
 rw [ht, hx, haa, hneg] at HR
 rw [ht] at hc1 hc3
 rw [hzf] at hc2 hc4
 have hc5 : (0 : Int) < (t.size : Nat) := by omega
 rw [haa, hneg]
 have HFF := Aside0.mk HF
 have HB := Aside0.mk hw0
 obtain ⟨v, hv⟩ : ∃ z, bs (45 :: r) = z := ⟨_, rfl⟩
 rw [hv] at hcat
 have hres : ∀ b : Bool, bs (if b then 45 :: r else r) = if b then v else u := fun b => by cases b; exact hu; exact hv
 rw [hres]
 have HH := Aside0.mk (fun (w1 w2 : World) (h : Below w1.heap.size w1 w2) (k : Below w0.heap.size w0 w1) => below_step k h)
 clear HF hw0 ht hx hzf hu haa hneg hv hres ha hf hmm hr
 cases neg with
 | false =>
  go_enter Tryz.func48, Tryz.ntmps48
  go_upto_region 10 with (go_at_call 13; (with_reducible refine (HR.out _).mono ?_); rintro q w' ⟨rfl, hb⟩; replace HB := Aside0.mk (HH.out _ _ hb HB.out); clear hb)
  obtain ⟨g, hg⟩ : ∃ g, w'.heap.size = g := ⟨_, rfl⟩
  generalize hW : w'.alloc (Obj.cells #[Value.string t, Value.int .i64 x, Value.bool false] 28) = W1
  have BK := Aside0.mk (show W1.heap[g]? = some (.cells #[.string t, .int .i64 x, .bool false] 28 (0, 0)) by rw [← hW, ← hg]; exact blk_new _ _)
  replace HB := Aside0.mk (show Below w0.heap.size w0 W1 by rw [← hW]; exact below_alloc HB.out _)
  clear hW
  rw [hg]
  clear hg
  have z0 := (blk_cell BK.out 0).trans (show _ = some (Value.string t) from rfl)
  have z1 := (blk_cell BK.out 1).trans (show _ = some (Value.int .i64 x) from rfl)
  have z2 := (blk_cell BK.out 2).trans (show _ = some (Value.bool false) from rfl)
  go_region_held3 (fun w' => w'.cell? ⟨g, 0, none⟩ = some (.string t) ∧ w'.cell? ⟨g, 1, none⟩ = some (.int .i64 x) ∧ w'.cell? ⟨g, 2, none⟩ = some (.bool false) ∧ Below w0.heap.size w0 w')
   (((try go_split_ands); refine ⟨?_, ?_, ?_, ?_⟩ <;> first
    | assumption
    | exact HB.out
    | exact pw_cell_below hb_ (by assumption)
    | exact pw_cell_below (below_drew (Below.refl _ _)) (by assumption)
    | exact below_drew (by assumption)
    | exact below_drew HB.out
    | exact Below.trans (by assumption) (hb_.mono (Below.size (by assumption)))))
   ((go_at_call 52; go_split_ands; (refine (HFF.out _ (by assumption)).mono ?_); rintro q w2 ⟨rfl, hb_⟩))
  (try go_split_ands)
  go_wp2
  go_ret
  exact ⟨rfl, by assumption⟩
 | true =>
  go_enter Tryz.func48, Tryz.ntmps48
  go_upto_region 10 with (go_at_call 13; (with_reducible refine (HR.out _).mono ?_); rintro q w' ⟨rfl, hb⟩; replace HB := Aside0.mk (HH.out _ _ hb HB.out); clear hb)
  obtain ⟨g, hg⟩ : ∃ g, w'.heap.size = g := ⟨_, rfl⟩
  generalize hW : w'.alloc (Obj.cells #[Value.string t, Value.int .i64 x, Value.bool true] 28) = W1
  have BK := Aside0.mk (show W1.heap[g]? = some (.cells #[.string t, .int .i64 x, .bool true] 28 (0, 0)) by rw [← hW, ← hg]; exact blk_new _ _)
  replace HB := Aside0.mk (show Below w0.heap.size w0 W1 by rw [← hW]; exact below_alloc HB.out _)
  clear hW
  rw [hg]
  clear hg
  have z0 := (blk_cell BK.out 0).trans (show _ = some (Value.string t) from rfl)
  have z1 := (blk_cell BK.out 1).trans (show _ = some (Value.int .i64 x) from rfl)
  have z2 := (blk_cell BK.out 2).trans (show _ = some (Value.bool true) from rfl)
  go_region_held3 (fun w' => w'.cell? ⟨g, 0, none⟩ = some (.string t) ∧ w'.cell? ⟨g, 1, none⟩ = some (.int .i64 x) ∧ w'.cell? ⟨g, 2, none⟩ = some (.bool true) ∧ Below w0.heap.size w0 w')
   (((try go_split_ands); refine ⟨?_, ?_, ?_, ?_⟩ <;> first
    | assumption
    | exact HB.out
    | exact pw_cell_below hb_ (by assumption)
    | exact pw_cell_below (below_drew (Below.refl _ _)) (by assumption)
    | exact below_drew (by assumption)
    | exact below_drew HB.out
    | exact Below.trans (by assumption) (hb_.mono (Below.size (by assumption)))))
   ((go_at_call 52; go_split_ands; (refine (HFF.out _ (by assumption)).mono ?_); rintro q w2 ⟨rfl, hb_⟩))
  (try go_split_ands)
  go_wp2
  go_ret
  exact ⟨rfl, by assumption⟩
set_option maxRecDepth 100000 in
theorem d_shown_odd (w : World) (a : Nat) (ha : a < 18446744073709551616) (hf : ffin a = false) (n : Int) (F : Nat) :
  Calls Tryz.prog 48 #[.int .u64 (a : Int), .int .i64 n, .func (.func F) #[] #[]] w fun x w' => x = .returned (.string (bs (oddV a))) ∧ Below w.heap.size w w' := by
 obtain ⟨mx, hm0⟩ : ∃ z, max n 1 = z := ⟨_, rfl⟩
 obtain ⟨m, hm⟩ : ∃ z, min mx 17 = z := ⟨_, rfl⟩
 have hm1 : (if n < 1 then 1 else n) = mx := by rw [← hm0]; split <;> omega
 have hm2 : (if 17 < mx then 17 else mx) = m := by rw [← hm]; split <;> omega
 have HR := Aside0.mk (fun w => d_Rep_bad w a ha m (.inr (.inr hf)))
 have HN := Aside0.mk (fun w => s_Neg_inf w)
 have HB := Aside0.mk (Below.refl w.heap.size w)
 obtain ⟨aa, haa⟩ : ∃ z : Int, (a : Int) = z := ⟨_, rfl⟩
 rw [haa] at HR ⊢
 unfold oddV
 by_cases h1 : a = 9218868437227405312
 ·have c1 : aa = 9218868437227405312 := by omega
  rw [if_pos h1]
  have hb : bs [73, 110, 102] = ⟨#[73, 110, 102]⟩ := rfl
  rw [hb]
  subst c1
  clear ha hf h1 haa hb
  go_enter Tryz.func48, Tryz.ntmps48
  go_wp2_with (go_at_call 13; (with_reducible refine (HR.out _).mono ?_); rintro q w' ⟨rfl, hb⟩; replace HB := bt_ HB hb; clear hb)
  go_ret
  exact ⟨rfl, by repeat (first | exact HB.out | apply below_alloc)⟩
 have c1 : (aa == 9218868437227405312) = false := by rw [beq_eq_false_iff_ne]; omega
 have c2 : decide (aa = 9218868437227405312) = false := decide_eq_false (by omega)
 have c3 : ¬ aa = 9218868437227405312 := by omega
 rw [if_neg h1]
 by_cases h2 : a = 18442240474082181120
 ·have c4 : aa = 18442240474082181120 := by omega
  rw [if_pos h2]
  have hb : bs [45, 73, 110, 102] = ⟨#[45, 73, 110, 102]⟩ := rfl
  rw [hb]
  subst c4
  clear ha hf h1 h2 haa hb c1 c2 c3
  go_enter Tryz.func48, Tryz.ntmps48
  go_wp2_with (first | (go_at_call 13; (with_reducible refine (HR.out _).mono ?_); rintro q w' ⟨rfl, hb⟩; replace HB := bt_ HB hb; clear hb) | (go_at_call 106; (with_reducible refine (HN.out _).mono ?_); rintro q w' ⟨rfl, hb⟩; replace HB := Aside0.mk (below_step (below_alloc HB.out _) hb); clear hb))
  go_ret
  exact ⟨rfl, by repeat (first | exact HB.out | apply below_alloc)⟩
 ·have c4 : (aa == 18442240474082181120) = false := by rw [beq_eq_false_iff_ne]; omega
  have c5 : decide (aa = 18442240474082181120) = false := decide_eq_false (by omega)
  have c6 : ¬ aa = 18442240474082181120 := by omega
  rw [if_neg h2]
  have hb : bs [78, 97, 78] = ⟨#[78, 97, 78]⟩ := rfl
  rw [hb]
  clear ha hf h1 h2 haa hb
  go_enter Tryz.func48, Tryz.ntmps48
  go_wp2_with (first | (go_at_call 13; (with_reducible refine (HR.out _).mono ?_); rintro q w' ⟨rfl, hb⟩; replace HB := bt_ HB hb; clear hb) | (go_at_call 106; (with_reducible refine (HN.out _).mono ?_); rintro q w' ⟨rfl, hb⟩; replace HB := Aside0.mk (below_step (below_alloc HB.out _) hb); clear hb))
  go_ret
  exact ⟨rfl, by repeat (first | exact HB.out | apply below_alloc)⟩
theorem many_bound (n : Int) : 1 ≤ many n ∧ many n ≤ 17 := by unfold many; omega
theorem fixedV_len {d : List UInt8} {e n : Int} (hd : d.length ≤ 17) (he : -335 ≤ e) (he2 : e ≤ 343) (hn : 1 ≤ n) : (fixedV d e n).length ≤ 1000 := by
 unfold fixedV
 split
 ·simp; omega
 ·split
  ·simp; omega
  ·simp; omega
set_option maxRecDepth 100000 in
theorem d_Fixed (w : World) (a : Nat) (ha : a < 18446744073709551616) (n : Int) : Calls Tryz.prog 20 #[.int .u64 (a : Int), .int .i64 n] w fun x w' => x = .returned (.string (bs (shownV a (fixedV (repText a (many n)) (repExp a (many n)) (many n))))) ∧ Below w.heap.size w w' := by
 obtain ⟨hm1, hm2⟩ := many_bound n
 have key : ∀ w, Calls Tryz.prog 48 #[.int .u64 (a : Int), .int .i64 n, .func (.func 52) #[] #[]] w fun x w' => x = .returned (.string (bs (shownV a (fixedV (repText a (many n)) (repExp a (many n)) (many n))))) ∧ Below w.heap.size w w' := by
  intro w
  unfold shownV
  cases hf : ffin a with
  | false => exact d_shown_odd w a ha hf n 52
  | true =>
   have hl := repText_size hf hm1
   obtain ⟨b1, b2⟩ := repExp_bound hf (many n)
   exact d_shown_fixed w a ha hf n _ (Nat.le_trans (fixedV_len (by omega) b1 b2 hm1) (by decide)) w (Below.refl _ _) (fun w' _ => d_fixed w' _ _ _ _ (by omega) (by omega) (by omega) (by omega) (by omega))
 have HK := Aside0.mk key
 obtain ⟨u, hu⟩ : ∃ z, bs (shownV a (fixedV (repText a (many n)) (repExp a (many n)) (many n))) = z := ⟨_, rfl⟩
 obtain ⟨aa, haa⟩ : ∃ z : Int, (a : Int) = z := ⟨_, rfl⟩
 rw [hu, haa] at HK ⊢
 clear key hu haa ha hm1 hm2
 go_enter Tryz.func20, Tryz.ntmps20
 go_wp2_with (go_at_call 48; (with_reducible refine (HK.out _).mono ?_); rintro q w' ⟨rfl, hb⟩; have HB := Aside0.mk hb; clear hb)
 go_ret
 exact ⟨rfl, HB.out⟩
end Go.Proofs.YtdoeigngpemcgaaGreatDoor.Dec
namespace Go.Read
open Go.Flt Go.Proofs.YtdoeigngpemcgaaGreatDoor Go.Proofs.YtdoeigngpemcgaaGreatDoor.Dec
def q1 (l : List UInt8) := after [43, 45] l
def qA (l : List UInt8) := dg (q1 l)
def q2 (l : List UInt8) := past (q1 l)
def qp (l : List UInt8) := hasM [46] (q2 l)
def qB (l : List UInt8) := if qp l then dg (q2 l).tail else []
def q3 (l : List UInt8) := if qp l then past (q2 l).tail else q2 l
def qE (l : List UInt8) := hasM [69, 101, 68, 100] (q3 l)
def q4 (l : List UInt8) := after [69, 101, 68, 100] (q3 l)
def qS (l : List UInt8) := hasM [43, 45] (q4 l)
def qm (l : List UInt8) := minus (q4 l)
def q5 (l : List UInt8) := after [43, 45] (q4 l)
def qx (l : List UInt8) : Int := if qE l || qS l then expo (qm l) (dg (q5 l)) else 0
def q6 (l : List UInt8) := if qE l || qS l then past (q5 l) else q5 l
/-- what decimal.Parse answers -/
def parseN (l : List UInt8) : Nat × Bool :=
 if 400 < l.length then (0, false) else if l.all (· == 32) then (0, true) else if qA l ++ qB l = [] then (0, false) else
 if q6 l = [] then (sg (minus l) (flt (Num.decL 0 (qA l ++ qB l)) (qx l - (qB l).length)), true) else (0, false)
theorem after_len (of l : List UInt8) : (after of l).length ≤ l.length := by
 unfold after
 split
 ·rw [List.length_tail]; omega
 ·exact Nat.le_refl _
theorem past_len (l : List UInt8) : (past l).length ≤ l.length := (List.dropWhile_sublist _).length_le
theorem dg_digs (l : List UInt8) : Num.digs (dg l) = true := by
 unfold Num.digs dg
 induction l with
 | nil => rfl
 | cons c t ih =>
  rw [List.takeWhile_cons]
  split
  ·rw [List.all_cons, ih, Bool.and_true]
   assumption
  ·rfl
theorem digs_app {l m : List UInt8} (h : Num.digs l = true) (k : Num.digs m = true) : Num.digs (l ++ m) = true := by
 unfold Num.digs at *
 rw [List.all_append, h, k]
 rfl
theorem qB_digs (l : List UInt8) : Num.digs (qB l) = true := by
 unfold qB
 split
 ·exact dg_digs _
 ·rfl
theorem two_len (l : List UInt8) : (dg l).length + (past l).length = l.length := by
 rw [← List.length_append, dg_past]
theorem q_len (l : List UInt8) : (qA l).length + (qB l).length + (q3 l).length ≤ l.length := by
 have h1 := after_len [43, 45] l
 have h2 := two_len (q1 l)
 have h3 : (q1 l).length ≤ l.length := h1
 have h4 : (qA l).length + (q2 l).length = (q1 l).length := h2
 unfold qB q3
 split
 ·have h5 := two_len (q2 l).tail
  rw [List.length_tail] at h5
  omega
 ·show _ + 0 + _ ≤ _
  omega
theorem trim_nil (l : List UInt8) : Lib.trimB l 32 = [] ↔ l.all (· == 32) = true := by
 have key : ∀ l : List UInt8, l.dropWhile (· == 32) = [] ↔ l.all (· == 32) = true := by
  intro l
  induction l with
  | nil => exact ⟨fun _ => rfl, fun _ => rfl⟩
  | cons c t ih =>
   rw [List.dropWhile_cons, List.all_cons]
   by_cases h : (c == 32) = true
   ·rw [if_pos h, h, Bool.true_and]; exact ih
   ·rw [if_neg h]
    simp [h]
 unfold Lib.trimB Lib.trimLeftB Lib.trimRightB
 rw [key, List.all_reverse]
 have h2 : (l.reverse.dropWhile (· == 32)).all (· == 32) = true ↔ l.all (· == 32) = true := by
  rw [← List.all_reverse (l := l)]
  generalize l.reverse = m
  induction m with
  | nil => exact Iff.rfl
  | cons c t ih =>
   rw [List.dropWhile_cons, List.all_cons]
   by_cases h : (c == 32) = true
   ·rw [if_pos h, h, Bool.true_and]; exact ih
   ·rw [if_neg h, List.all_cons]
 exact h2
theorem expo_bound (neg : Bool) (l : List UInt8) (h : Num.digs l = true) : -100000 < expo neg l ∧ expo neg l < 100000 := by
 have key : ((if 5 < (trim0 l).length then 99999 else Num.decL 0 (trim0 l) : Nat) : Int) < 100000 := by
  split
  ·decide
  ·have h1 := Num.decL_lt (trim0 l) (Num.digs_mem (trim_digs h))
   have h2 : 10 ^ (trim0 l).length ≤ 10 ^ 5 := Nat.pow_le_pow_right (by decide) (by omega)
   omega
 unfold expo
 generalize ((if 5 < (trim0 l).length then 99999 else Num.decL 0 (trim0 l) : Nat)) = n at key ⊢
 cases neg
 ·show -100000 < (n : Int) ∧ (n : Int) < 100000
  omega
 ·show -100000 < -(n : Int) ∧ -(n : Int) < 100000
  omega
theorem qx_bound (l : List UInt8) : -100000 < qx l ∧ qx l < 100000 := by
 unfold qx
 split
 ·exact expo_bound _ _ (dg_digs _)
 ·omega
end Go.Read
namespace Go.Proofs.YtdoeigngpemcgaaGreatDoor.Dec
open Go.RowKit Go.Flt Go.Read Go.Proofs.YtdoeigngpemcgaaGreatDoor.Pure Go.Proofs.YtdoeigngpemcgaaGreatDoorW.PrintWords Go.Proofs.YtdoeigngpemcgaaGreatDoorW.PrintLast Go.Proofs.YtdoeigngpemcgaaGreatDoorW.PrintMore
theorem below_or {n : Nat} {w0 w w' : World} (h : Below n w0 w) (k : w' = w ∨ w' = w.drew) : Below n w0 w' := by
 rcases k with rfl | rfl
 ·exact h
 ·exact below_drew h
set_option maxRecDepth 100000 in
theorem d_Parse_long (w : World) (l : List UInt8) (h : 400 < l.length) :
  Calls Tryz.prog 10 #[.string (bs l)] w fun e w' => e = .returned (.tuple #[.int .u64 0, .bool false]) ∧ Below w.heap.size w w' := by
 obtain ⟨s, hs⟩ : ∃ s, bs l = s := ⟨_, rfl⟩
 have c1 := decide_eq_true (show (400 : Int) < (s.size : Nat) by rw [← hs, bs_size]; omega)
 rw [hs]
 clear hs h
 go_enter Tryz.func10, Tryz.ntmps10
 go_wp2
 go_ret2
 exact ⟨rfl, Below.refl _ _⟩
set_option maxRecDepth 100000 in
theorem d_Parse_blank (w : World) (l : List UInt8) (h : l.length ≤ 400) (h2 : l.all (· == 32) = true) :
  Calls Tryz.prog 10 #[.string (bs l)] w fun e w' => e = .returned (.tuple #[.int .u64 0, .bool true]) ∧ Below w.heap.size w w' := by
 have HT := Aside0.mk (fun w => Tryz.strings_Trim_one (bs l) 32 (by decide) w (by rw [bs_size]; omega))
 obtain ⟨t, ht⟩ : ∃ t, (⟨(Lib.trimB (bs l).data.toList 32).toArray⟩ : ByteArray) = t := ⟨_, rfl⟩
 have c2 : t.toList = [] := by rw [← ht, ByteArray.toList_mk]; exact (trim_nil l).2 h2
 have c3 : t.toList.isEmpty = true := by rw [c2]; rfl
 rw [ht] at HT
 have HB := Aside0.mk (Below.refl w.heap.size w)
 obtain ⟨s, hs⟩ : ∃ s, bs l = s := ⟨_, rfl⟩
 have c1 := decide_eq_false (show ¬ (400 : Int) < (s.size : Nat) by rw [← hs, bs_size]; omega)
 rw [hs] at HT ⊢
 clear hs h h2 ht
 go_enter Tryz.func10, Tryz.ntmps10
 go_wp2_with (go_at_call 26; (with_reducible refine (HT.out _).mono ?_); rintro e w' ⟨rfl, hw⟩; replace HB := Aside0.mk (below_or HB.out hw); clear hw)
 go_ret2
 exact ⟨rfl, HB.out⟩
set_option maxRecDepth 100000 in
theorem d_Parse_none (w : World) (l : List UInt8) (h : l.length ≤ 400) (h2 : ¬ l.all (· == 32) = true) (h3 : qA l ++ qB l = []) :
  Calls Tryz.prog 10 #[.string (bs l)] w fun e w' => e = .returned (.tuple #[.int .u64 0, .bool false]) ∧ Below w.heap.size w w' := by
 have hu46 := Tryz.underlying46
 have HT := Aside0.mk (fun w => Tryz.strings_Trim_one (bs l) 32 (by decide) w (by rw [bs_size]; omega))
 obtain ⟨t, ht⟩ : ∃ t, (⟨(Lib.trimB (bs l).data.toList 32).toArray⟩ : ByteArray) = t := ⟨_, rfl⟩
 have c2 : ¬ t.toList = [] := by rw [← ht, ByteArray.toList_mk]; exact fun e => h2 ((trim_nil l).1 e)
 have c3 : t.toList.isEmpty = false := by
  cases e : t.toList with
  | nil => exact absurd e c2
  | cons a b => rfl
 rw [ht] at HT
 have HB := Aside0.mk (Below.refl w.heap.size w)
 have HS1 := Aside0.mk (fun w' g (hb : Below w.heap.size w w') (hg : w.heap.size ≤ g) (h : Rd w' g l) => d_sign w w' g l hb hg h)
 have k1 : (q1 l).length ≤ 1000000 := Nat.le_trans (after_len _ _) (by omega)
 have HD1 := Aside0.mk (fun w' g (hb : Below w.heap.size w w') (hg : w.heap.size ≤ g) (h : Rd w' g (q1 l)) => d_digits w w' g (q1 l) k1 hb hg h)
 have HP := Aside0.mk (fun w' g (hb : Below w.heap.size w w') (hg : w.heap.size ≤ g) (h : Rd w' g (q2 l)) => d_take w w' g [46] (q2 l) hb hg h)
 have hp46 : bs [46] = ⟨#[46]⟩ := rfl
 have hp4 : bs [69, 101, 68, 100] = ⟨#[69, 101, 68, 100]⟩ := rfl
 rw [hp46] at HP
 have k2 : (q2 l).tail.length ≤ 1000000 := by have := past_len (q1 l); have : (q2 l).length ≤ _ := this; rw [List.length_tail]; omega
 have HD2 := Aside0.mk (fun w' g (hb : Below w.heap.size w w') (hg : w.heap.size ≤ g) (h : Rd w' g (q2 l).tail) => d_digits w w' g (q2 l).tail k2 hb hg h)
 have HE := Aside0.mk (fun w' g (hb : Below w.heap.size w w') (hg : w.heap.size ≤ g) (h : Rd w' g (q3 l)) => d_take w w' g [69, 101, 68, 100] (q3 l) hb hg h)
 rw [hp4] at HE
 have HS2 := Aside0.mk (fun w' g (hb : Below w.heap.size w w') (hg : w.heap.size ≤ g) (h : Rd w' g (q4 l)) => d_sign w w' g (q4 l) hb hg h)
 have k3 : (q5 l).length ≤ 1000000 := Nat.le_trans (after_len _ _) (Nat.le_trans (after_len _ _) (by have := q_len l; omega))
 have HD3 := Aside0.mk (fun w' g (hb : Below w.heap.size w w') (hg : w.heap.size ≤ g) (h : Rd w' g (q5 l)) => d_digits w w' g (q5 l) k3 hb hg h)
 have HX := Aside0.mk (fun w' => d_exponent w' (qm l) (dg (q5 l)) (dg_digs _) (Nat.le_trans (dg_len _) k3))
 have hql := q_len l
 have HF := Aside0.mk (fun w' => d_float w' (minus l) (qA l ++ qB l) (digs_app (dg_digs _) (qB_digs l)) (by rw [List.length_append]; omega) (qx l - (qB l).length))
 have n1 : after [43, 45] l = q1 l := rfl
 have n2 : past (q1 l) = q2 l := rfl
 have n3 : dg (q1 l) = qA l := rfl
 have n4 : hasM [46] (q2 l) = qp l := rfl
 have n5 : hasM [69, 101, 68, 100] (q3 l) = qE l := rfl
 have n6 : after [69, 101, 68, 100] (q3 l) = q4 l := rfl
 have n7 : hasM [43, 45] (q4 l) = qS l := rfl
 have n8 : after [43, 45] (q4 l) = q5 l := rfl
 have n9 : minus (q4 l) = qm l := rfl
 rw [n1] at HS1
 rw [n2, n3] at HD1
 rw [n4] at HP
 rw [n5, n6] at HE
 rw [n7, n8, n9] at HS2
 have hlB : ((bs (qB l)).size : Nat) = (qB l).length := bs_size _
 have hAB : bs (qA l) ++ bs (qB l) = bs (qA l ++ qB l) := by apply ByteArray.ext; simp [bs]
 have hlA : (bs (qA l)).size = (qA l).length := bs_size _
 obtain ⟨sAB, hsAB⟩ : ∃ s, bs (qA l ++ qB l) = s := ⟨_, rfl⟩
 have hABl : sAB.toList = qA l ++ qB l := by rw [← hsAB, bs_list]
 obtain ⟨s, hs⟩ : ∃ s, bs l = s := ⟨_, rfl⟩
 have c1 := decide_eq_false (show ¬ (400 : Int) < (s.size : Nat) by rw [← hs, bs_size]; omega)
 rw [hs] at HT ⊢
 have HSE : Aside0 (bs l = s) := ⟨hs⟩
 obtain ⟨neg, hneg⟩ : ∃ x, minus l = x := ⟨_, rfl⟩
 rw [hneg] at HS1 HF
 rw [hsAB] at HF hAB
 obtain ⟨sA, hsA⟩ : ∃ s, bs (qA l) = s := ⟨_, rfl⟩
 rw [hsA] at HD1 hAB hlA
 obtain ⟨sB, hsB⟩ : ∃ s, bs (qB l) = s := ⟨_, rfl⟩
 rw [hsB] at hAB hlB
 have c4 : ¬ 9223372036854775807 < sA.size + sB.size := by omega
 have c5 : sAB.toList = [] := by rw [hABl, h3]
 have c6 : sAB.toList.isEmpty = true := by rw [c5]; rfl
 have hnB : qB l = [] := (List.append_eq_nil_iff.1 h3).2
 have hnA : qA l = [] := (List.append_eq_nil_iff.1 h3).1
 by_cases hp : qp l = true
 ·have m1 : after [46] (q2 l) = (q2 l).tail := by unfold after; rw [if_pos (n4.trans hp)]
  have m2 : dg (q2 l).tail = qB l := by unfold qB; rw [if_pos hp]
  have m3 : past (q2 l).tail = q3 l := by unfold q3; rw [if_pos hp]
  rw [m1, hp] at HP
  rw [m2, m3, hsB] at HD2
  clear HX HF HD3 HS2 HE k1 k2 k3 hql h h2 h3 ht hp46 hp4 n1 n2 n3 n4 n5 n6 n7 n8 n9 hs hneg hABl hsAB hsA hsB hp m1 m2 m3 hnB hnA hlA hlB
  go_enter Tryz.func10, Tryz.ntmps10
  go_wp2_with (first | (go_at_call 26; (with_reducible refine (HT.out _).mono ?_); rintro e w' ⟨rfl, hw⟩; replace HB := Aside0.mk (below_or HB.out hw); clear hw) | ((with_reducible refine gate_dst (N := 26) rfl ?_); refine box_event ?hg (N := 26) ?hd (cs := #[.string s]) (t := 46) ?hr ?_; (case hd => rfl); (case hg => rfl); (case hr => first | (go_simp; done) | (go_simp; rfl)); intro g1 hg w4 hbox hb; have n0_ := Aside0.mk (show Rd w4 g1 l by unfold Rd; rw [HSE.out]; exact hbox); have n2_ := Aside0.mk ((by rw [hg]; exact (below_size HB.out)) : w.heap.size ≤ g1); have n1_ := Aside0.mk (below_step HB.out hb); clear HB; have HB := n1_; have HR := n0_; have GE := n2_; clear n0_ n1_ n2_; clear hb hbox hg) | (go_at_call 27; (with_reducible refine (HS1.out _ _ HB.out GE.out HR.out).mono ?_); rintro e w' ⟨rfl, hr, hb⟩; have n0_ := Aside0.mk hr; have n1_ := Aside0.mk hb; clear HR HB hr hb; have HR := n0_; have HB := n1_; clear n0_ n1_) | (go_at_call 28; (with_reducible refine (HD1.out _ _ HB.out GE.out HR.out).mono ?_); rintro e w' ⟨rfl, hr, hb⟩; have n0_ := Aside0.mk hr; have n1_ := Aside0.mk hb; clear HR HB hr hb; have HR := n0_; have HB := n1_; clear n0_ n1_) | (go_at_call 29; (with_reducible refine (HP.out _ _ HB.out GE.out HR.out).mono ?_); rintro e w' ⟨rfl, hr, hb⟩; have n0_ := Aside0.mk hr; have n1_ := Aside0.mk hb; clear HR HB hr hb; have HR := n0_; have HB := n1_; clear n0_ n1_) | (go_at_call 28; (with_reducible refine (HD2.out _ _ HB.out GE.out HR.out).mono ?_); rintro e w' ⟨rfl, hr, hb⟩; have n0_ := Aside0.mk hr; have n1_ := Aside0.mk hb; clear HR HB hr hb; have HR := n0_; have HB := n1_; clear n0_ n1_))
  go_ret2
  exact ⟨rfl, HB.out⟩
 ·have hp' : qp l = false := by cases e : qp l with | true => exact absurd e hp | false => rfl
  have m1 : after [46] (q2 l) = q2 l := by unfold after; rw [if_neg (by rw [n4]; exact hp)]
  rw [m1, hp'] at HP
  have c7 : sA ++ ⟨#[]⟩ = sAB := by rw [← hAB, ← hsB, hnB]; rfl
  have c8 : sA = sAB := by rw [← hsA, ← hsAB, hnB, List.append_nil]
  subst c8
  have c9 : ¬ 9223372036854775807 < sA.size := by omega
  clear HX HF HD3 HS2 HE HD2 k1 k2 k3 hql h h2 h3 ht hp46 hp4 n1 n2 n3 n4 n5 n6 n7 n8 n9 hs hneg hABl hsAB hsA hsB hp m1 hnB hnA hlA hlB hp' hAB c4
  go_enter Tryz.func10, Tryz.ntmps10
  go_wp2_with (first | (go_at_call 26; (with_reducible refine (HT.out _).mono ?_); rintro e w' ⟨rfl, hw⟩; replace HB := Aside0.mk (below_or HB.out hw); clear hw) | ((with_reducible refine gate_dst (N := 26) rfl ?_); refine box_event ?hg (N := 26) ?hd (cs := #[.string s]) (t := 46) ?hr ?_; (case hd => rfl); (case hg => rfl); (case hr => first | (go_simp; done) | (go_simp; rfl)); intro g1 hg w4 hbox hb; have n0_ := Aside0.mk (show Rd w4 g1 l by unfold Rd; rw [HSE.out]; exact hbox); have n2_ := Aside0.mk ((by rw [hg]; exact (below_size HB.out)) : w.heap.size ≤ g1); have n1_ := Aside0.mk (below_step HB.out hb); clear HB; have HB := n1_; have HR := n0_; have GE := n2_; clear n0_ n1_ n2_; clear hb hbox hg) | (go_at_call 27; (with_reducible refine (HS1.out _ _ HB.out GE.out HR.out).mono ?_); rintro e w' ⟨rfl, hr, hb⟩; have n0_ := Aside0.mk hr; have n1_ := Aside0.mk hb; clear HR HB hr hb; have HR := n0_; have HB := n1_; clear n0_ n1_) | (go_at_call 28; (with_reducible refine (HD1.out _ _ HB.out GE.out HR.out).mono ?_); rintro e w' ⟨rfl, hr, hb⟩; have n0_ := Aside0.mk hr; have n1_ := Aside0.mk hb; clear HR HB hr hb; have HR := n0_; have HB := n1_; clear n0_ n1_) | (go_at_call 29; (with_reducible refine (HP.out _ _ HB.out GE.out HR.out).mono ?_); rintro e w' ⟨rfl, hr, hb⟩; have n0_ := Aside0.mk hr; have n1_ := Aside0.mk hb; clear HR HB hr hb; have HR := n0_; have HB := n1_; clear n0_ n1_))
  go_ret2
  exact ⟨rfl, HB.out⟩
set_option maxRecDepth 100000 in
theorem d_Parse_some (w : World) (l : List UInt8) (h : l.length ≤ 400) (h2 : ¬ l.all (· == 32) = true) (h3 : ¬ qA l ++ qB l = []) (F : Int) (hFF : ((sg (minus l) (flt (Num.decL 0 (qA l ++ qB l)) (qx l - (qB l).length)) : Nat) : Int) = F) :
  Calls Tryz.prog 10 #[.string (bs l)] w fun e w' => e = .returned (if q6 l = [] then .tuple #[.int .u64 F, .bool true] else .tuple #[.int .u64 0, .bool false]) ∧ Below w.heap.size w w' := by
 have hu46 := Tryz.underlying46
 have HT := Aside0.mk (fun w => Tryz.strings_Trim_one (bs l) 32 (by decide) w (by rw [bs_size]; omega))
 obtain ⟨t, ht⟩ : ∃ t, (⟨(Lib.trimB (bs l).data.toList 32).toArray⟩ : ByteArray) = t := ⟨_, rfl⟩
 have c2 : ¬ t.toList = [] := by rw [← ht, ByteArray.toList_mk]; exact fun e => h2 ((trim_nil l).1 e)
 have c3 : t.toList.isEmpty = false := by
  cases e : t.toList with
  | nil => exact absurd e c2
  | cons a b => rfl
 rw [ht] at HT
 have HB := Aside0.mk (Below.refl w.heap.size w)
 have HS1 := Aside0.mk (fun w' g (hb : Below w.heap.size w w') (hg : w.heap.size ≤ g) (h : Rd w' g l) => d_sign w w' g l hb hg h)
 have k1 : (q1 l).length ≤ 1000000 := Nat.le_trans (after_len _ _) (by omega)
 have HD1 := Aside0.mk (fun w' g (hb : Below w.heap.size w w') (hg : w.heap.size ≤ g) (h : Rd w' g (q1 l)) => d_digits w w' g (q1 l) k1 hb hg h)
 have HP := Aside0.mk (fun w' g (hb : Below w.heap.size w w') (hg : w.heap.size ≤ g) (h : Rd w' g (q2 l)) => d_take w w' g [46] (q2 l) hb hg h)
 have hp46 : bs [46] = ⟨#[46]⟩ := rfl
 have hp4 : bs [69, 101, 68, 100] = ⟨#[69, 101, 68, 100]⟩ := rfl
 rw [hp46] at HP
 have k2 : (q2 l).tail.length ≤ 1000000 := by have := past_len (q1 l); have : (q2 l).length ≤ _ := this; rw [List.length_tail]; omega
 have HD2 := Aside0.mk (fun w' g (hb : Below w.heap.size w w') (hg : w.heap.size ≤ g) (h : Rd w' g (q2 l).tail) => d_digits w w' g (q2 l).tail k2 hb hg h)
 have HE := Aside0.mk (fun w' g (hb : Below w.heap.size w w') (hg : w.heap.size ≤ g) (h : Rd w' g (q3 l)) => d_take w w' g [69, 101, 68, 100] (q3 l) hb hg h)
 rw [hp4] at HE
 have HS2 := Aside0.mk (fun w' g (hb : Below w.heap.size w w') (hg : w.heap.size ≤ g) (h : Rd w' g (q4 l)) => d_sign w w' g (q4 l) hb hg h)
 have k3 : (q5 l).length ≤ 1000000 := Nat.le_trans (after_len _ _) (Nat.le_trans (after_len _ _) (by have := q_len l; omega))
 have HD3 := Aside0.mk (fun w' g (hb : Below w.heap.size w w') (hg : w.heap.size ≤ g) (h : Rd w' g (q5 l)) => d_digits w w' g (q5 l) k3 hb hg h)
 have HX := Aside0.mk (fun w' => d_exponent w' (qm l) (dg (q5 l)) (dg_digs _) (Nat.le_trans (dg_len _) k3))
 have hql := q_len l
 have HF := Aside0.mk (fun w' => d_float w' (minus l) (qA l ++ qB l) (digs_app (dg_digs _) (qB_digs l)) (by rw [List.length_append]; omega) (qx l - (qB l).length))
 have n1 : after [43, 45] l = q1 l := rfl
 have n2 : past (q1 l) = q2 l := rfl
 have n3 : dg (q1 l) = qA l := rfl
 have n4 : hasM [46] (q2 l) = qp l := rfl
 have n5 : hasM [69, 101, 68, 100] (q3 l) = qE l := rfl
 have n6 : after [69, 101, 68, 100] (q3 l) = q4 l := rfl
 have n7 : hasM [43, 45] (q4 l) = qS l := rfl
 have n8 : after [43, 45] (q4 l) = q5 l := rfl
 have n9 : minus (q4 l) = qm l := rfl
 rw [n1] at HS1
 rw [n2, n3] at HD1
 rw [n4] at HP
 rw [n5, n6] at HE
 rw [n7, n8, n9] at HS2
 have hlB : ((bs (qB l)).size : Nat) = (qB l).length := bs_size _
 have hAB : bs (qA l) ++ bs (qB l) = bs (qA l ++ qB l) := by apply ByteArray.ext; simp [bs]
 have hlA : (bs (qA l)).size = (qA l).length := bs_size _
 obtain ⟨sAB, hsAB⟩ : ∃ s, bs (qA l ++ qB l) = s := ⟨_, rfl⟩
 have hABl : sAB.toList = qA l ++ qB l := by rw [← hsAB, bs_list]
 obtain ⟨s, hs⟩ : ∃ s, bs l = s := ⟨_, rfl⟩
 have c1 := decide_eq_false (show ¬ (400 : Int) < (s.size : Nat) by rw [← hs, bs_size]; omega)
 rw [hs] at HT ⊢
 have HSE : Aside0 (bs l = s) := ⟨hs⟩
 obtain ⟨neg, hneg⟩ : ∃ x, minus l = x := ⟨_, rfl⟩
 rw [hFF] at HF
 rw [hneg] at HS1 HF
 rw [hsAB] at HF hAB
 obtain ⟨sA, hsA⟩ : ∃ s, bs (qA l) = s := ⟨_, rfl⟩
 rw [hsA] at HD1 hAB hlA
 obtain ⟨sB, hsB⟩ : ∃ s, bs (qB l) = s := ⟨_, rfl⟩
 rw [hsB] at hAB hlB
 have c4 : ¬ 9223372036854775807 < sA.size + sB.size := by omega
 have c5 : ¬ sAB.toList = [] := by rw [hABl]; exact h3
 have c6 : sAB.toList.isEmpty = false := by
  cases e : sAB.toList with
  | nil => exact absurd e c5
  | cons a b => rfl
 obtain ⟨res, hres⟩ : ∃ z : Value, (if q6 l = [] then Value.tuple #[.int .u64 F, .bool true] else .tuple #[.int .u64 0, .bool false]) = z := ⟨_, rfl⟩
 have HRES := Aside0.mk hres
 rw [hres]
 clear hres
 obtain ⟨s6, hs6⟩ : ∃ s, bs (q6 l) = s := ⟨_, rfl⟩
 have HS6 : Aside0 (bs (q6 l) = s6) := ⟨hs6⟩
 have hl6 := Aside0.mk (show s6.toList = q6 l by rw [← hs6, bs_list])
 have hexb : -100000 < qx l ∧ qx l < 100000 := qx_bound l
 obtain ⟨ex, hex⟩ : ∃ z, qx l = z := ⟨_, rfl⟩
 have HEX := Aside0.mk hex
 obtain ⟨zB, hzB⟩ : ∃ z : Int, ((sB.size : Nat) : Int) = z := ⟨_, rfl⟩
 have hzB' : 0 ≤ zB ∧ zB ≤ 400 := by omega
 obtain ⟨e', he'⟩ : ∃ z, ex - zB = z := ⟨_, rfl⟩
 rw [hex] at HF hexb
 clear hex
 rw [show ((qB l).length : Int) = zB by omega, he'] at HF
 have w1 : wrap64 (ex - zB) = e' := by rw [i64_id (by omega) (by omega)]; exact he'
 have w2 : IntKind.i64.wrap (ex - zB) = e' := (i64_w _).trans w1
 obtain ⟨sx, hsx⟩ : ∃ s, bs (dg (q5 l)) = s := ⟨_, rfl⟩
 rw [hsx] at HX HD3
 clear hFF
 by_cases hp : qp l = true
 ·have m1 : after [46] (q2 l) = (q2 l).tail := by unfold after; rw [if_pos (n4.trans hp)]
  have m2 : dg (q2 l).tail = qB l := by unfold qB; rw [if_pos hp]
  have m3 : past (q2 l).tail = q3 l := by unfold q3; rw [if_pos hp]
  rw [m1, hp] at HP
  rw [m2, m3, hsB] at HD2
  have w4 : ex = 0 → wrap64 (-zB) = e' := fun h => by rw [i64_id (by omega) (by omega)]; omega
  have W4 := Aside0.mk w4
  clear m2 m3 w4 hexb hzB' k1 k2 k3 hql h h2 h3 ht hp46 hp4 n1 n2 n3 n4 n5 n6 n7 n8 n9 hs hneg hABl hsAB hsA hsB hp m1 hlA hlB hs6 he' hsx
  go_enter Tryz.func10, Tryz.ntmps10
  go_upto_region 14 with (first | (go_at_call 26; (with_reducible refine (HT.out _).mono ?_); rintro e w' ⟨rfl, hw⟩; replace HB := Aside0.mk (below_or HB.out hw); clear hw) | ((with_reducible refine gate_dst (N := 26) rfl ?_); refine box_event ?hg (N := 26) ?hd (cs := #[.string s]) (t := 46) ?hr ?_; (case hd => rfl); (case hg => rfl); (case hr => first | (go_simp; done) | (go_simp; rfl)); intro g1 hg w4 hbox hb; have n0_ := Aside0.mk (show Rd w4 g1 l by unfold Rd; rw [HSE.out]; exact hbox); have n2_ := Aside0.mk ((by rw [hg]; exact (below_size HB.out)) : w.heap.size ≤ g1); have n1_ := Aside0.mk (below_step HB.out hb); clear HB; have HB := n1_; have HR := n0_; have GE := n2_; clear n0_ n1_ n2_; clear hb hbox hg) | (go_at_call 27; (with_reducible refine (HS1.out _ _ HB.out GE.out HR.out).mono ?_); rintro e w' ⟨rfl, hr, hb⟩; have n0_ := Aside0.mk hr; have n1_ := Aside0.mk hb; clear HR HB hr hb; have HR := n0_; have HB := n1_; clear n0_ n1_) | (go_at_call 28; (with_reducible refine (HD1.out _ _ HB.out GE.out HR.out).mono ?_); rintro e w' ⟨rfl, hr, hb⟩; have n0_ := Aside0.mk hr; have n1_ := Aside0.mk hb; clear HR HB hr hb; have HR := n0_; have HB := n1_; clear n0_ n1_) | (go_at_call 29; (with_reducible refine (HP.out _ _ HB.out GE.out HR.out).mono ?_); rintro e w' ⟨rfl, hr, hb⟩; have n0_ := Aside0.mk hr; have n1_ := Aside0.mk hb; clear HR HB hr hb; have HR := n0_; have HB := n1_; clear n0_ n1_) | (go_at_call 28; (with_reducible refine (HD2.out _ _ HB.out GE.out HR.out).mono ?_); rintro e w' ⟨rfl, hr, hb⟩; have n0_ := Aside0.mk hr; have n1_ := Aside0.mk hb; clear HR HB hr hb; have HR := n0_; have HB := n1_; clear n0_ n1_))
  by_cases hes : (qE l || qS l) = true
  ·have hq6 : q6 l = past (q5 l) := by unfold q6; rw [if_pos hes]
   rw [hq6] at HS6
   have hx : expo (qm l) (dg (q5 l)) = ex := by rw [← HEX.out]; unfold qx; rw [if_pos hes]
   rw [hx] at HX
   cases hE : qE l with
   | true =>
    rw [hE] at HE
    clear hE hx
    by_cases h6 : past (q5 l) = []
    ·have d1 : s6.toList = [] := by rw [hl6.out]; exact hq6.trans h6
     have d2 : s6.toList.isEmpty = true := by rw [d1]; rfl
     have HC := Aside0.mk (show q6 l = [] from hq6.trans h6)
     clear h6 hq6 hes
     go_wp2_with (first | (go_at_call 29; (with_reducible refine (HE.out _ _ HB.out GE.out HR.out).mono ?_); rintro e w' ⟨rfl, hr, hb⟩; have n0_ := Aside0.mk hr; have n1_ := Aside0.mk hb; clear HR HB hr hb; have HR := n0_; have HB := n1_; clear n0_ n1_) | (go_at_call 27; (with_reducible refine (HS2.out _ _ HB.out GE.out HR.out).mono ?_); rintro e w' ⟨rfl, hr, hb⟩; have n0_ := Aside0.mk hr; have n1_ := Aside0.mk hb; clear HR HB hr hb; have HR := n0_; have HB := n1_; clear n0_ n1_) | (go_at_call 28; (with_reducible refine (HD3.out _ _ HB.out GE.out HR.out).mono ?_); rintro e w' ⟨rfl, hr, hb⟩; have n0_ := Aside0.mk hr; have n1_ := Aside0.mk hb; clear HR HB hr hb; have HR := n0_; have HB := n1_; clear n0_ n1_) | (go_at_call 30; (with_reducible refine (HX.out _).mono ?_); rintro e w' ⟨rfl, hb⟩; replace HR := Aside0.mk (show Rd _ g1 _ from blk_below HR.out hb); replace HB := bt_ HB hb; clear hb; have zz : w'.cell? ⟨g1, 0, none⟩ = some (.string s6) := by rw [← HS6.out]; exact (blk_cell HR.out 0).trans rfl) | (go_at_call 31; (with_reducible refine (HF.out _).mono ?_); rintro e w' ⟨rfl, hb⟩; replace HB := bt_ HB hb; clear hb))
     go_ret2
     exact ⟨by rw [← HRES.out, if_pos HC.out]; rfl, HB.out⟩
    ·have d1 : ¬ s6.toList = [] := by rw [hl6.out]; exact fun h => h6 (hq6.symm.trans h)
     have d2 : s6.toList.isEmpty = false := by
      cases e : s6.toList with
      | nil => exact absurd e d1
      | cons a b => rfl
     have HC := Aside0.mk (show ¬ q6 l = [] from fun h => h6 (hq6.symm.trans h))
     clear h6 hq6 hes
     go_wp2_with (first | (go_at_call 29; (with_reducible refine (HE.out _ _ HB.out GE.out HR.out).mono ?_); rintro e w' ⟨rfl, hr, hb⟩; have n0_ := Aside0.mk hr; have n1_ := Aside0.mk hb; clear HR HB hr hb; have HR := n0_; have HB := n1_; clear n0_ n1_) | (go_at_call 27; (with_reducible refine (HS2.out _ _ HB.out GE.out HR.out).mono ?_); rintro e w' ⟨rfl, hr, hb⟩; have n0_ := Aside0.mk hr; have n1_ := Aside0.mk hb; clear HR HB hr hb; have HR := n0_; have HB := n1_; clear n0_ n1_) | (go_at_call 28; (with_reducible refine (HD3.out _ _ HB.out GE.out HR.out).mono ?_); rintro e w' ⟨rfl, hr, hb⟩; have n0_ := Aside0.mk hr; have n1_ := Aside0.mk hb; clear HR HB hr hb; have HR := n0_; have HB := n1_; clear n0_ n1_) | (go_at_call 30; (with_reducible refine (HX.out _).mono ?_); rintro e w' ⟨rfl, hb⟩; replace HR := Aside0.mk (show Rd _ g1 _ from blk_below HR.out hb); replace HB := bt_ HB hb; clear hb; have zz : w'.cell? ⟨g1, 0, none⟩ = some (.string s6) := by rw [← HS6.out]; exact (blk_cell HR.out 0).trans rfl) | (go_at_call 31; (with_reducible refine (HF.out _).mono ?_); rintro e w' ⟨rfl, hb⟩; replace HB := bt_ HB hb; clear hb))
     go_ret2
     exact ⟨by rw [← HRES.out, if_neg HC.out]; rfl, HB.out⟩
   | false =>
    have hS : qS l = true := by rw [hE, Bool.false_or] at hes; exact hes
    rw [hE] at HE
    rw [hS] at HS2
    clear hE hx hS
    by_cases h6 : past (q5 l) = []
    ·have d1 : s6.toList = [] := by rw [hl6.out]; exact hq6.trans h6
     have d2 : s6.toList.isEmpty = true := by rw [d1]; rfl
     have HC := Aside0.mk (show q6 l = [] from hq6.trans h6)
     clear h6 hq6 hes
     go_wp2_with (first | (go_at_call 29; (with_reducible refine (HE.out _ _ HB.out GE.out HR.out).mono ?_); rintro e w' ⟨rfl, hr, hb⟩; have n0_ := Aside0.mk hr; have n1_ := Aside0.mk hb; clear HR HB hr hb; have HR := n0_; have HB := n1_; clear n0_ n1_) | (go_at_call 27; (with_reducible refine (HS2.out _ _ HB.out GE.out HR.out).mono ?_); rintro e w' ⟨rfl, hr, hb⟩; have n0_ := Aside0.mk hr; have n1_ := Aside0.mk hb; clear HR HB hr hb; have HR := n0_; have HB := n1_; clear n0_ n1_) | (go_at_call 28; (with_reducible refine (HD3.out _ _ HB.out GE.out HR.out).mono ?_); rintro e w' ⟨rfl, hr, hb⟩; have n0_ := Aside0.mk hr; have n1_ := Aside0.mk hb; clear HR HB hr hb; have HR := n0_; have HB := n1_; clear n0_ n1_) | (go_at_call 30; (with_reducible refine (HX.out _).mono ?_); rintro e w' ⟨rfl, hb⟩; replace HR := Aside0.mk (show Rd _ g1 _ from blk_below HR.out hb); replace HB := bt_ HB hb; clear hb; have zz : w'.cell? ⟨g1, 0, none⟩ = some (.string s6) := by rw [← HS6.out]; exact (blk_cell HR.out 0).trans rfl) | (go_at_call 31; (with_reducible refine (HF.out _).mono ?_); rintro e w' ⟨rfl, hb⟩; replace HB := bt_ HB hb; clear hb))
     go_ret2
     exact ⟨by rw [← HRES.out, if_pos HC.out]; rfl, HB.out⟩
    ·have d1 : ¬ s6.toList = [] := by rw [hl6.out]; exact fun h => h6 (hq6.symm.trans h)
     have d2 : s6.toList.isEmpty = false := by
      cases e : s6.toList with
      | nil => exact absurd e d1
      | cons a b => rfl
     have HC := Aside0.mk (show ¬ q6 l = [] from fun h => h6 (hq6.symm.trans h))
     clear h6 hq6 hes
     go_wp2_with (first | (go_at_call 29; (with_reducible refine (HE.out _ _ HB.out GE.out HR.out).mono ?_); rintro e w' ⟨rfl, hr, hb⟩; have n0_ := Aside0.mk hr; have n1_ := Aside0.mk hb; clear HR HB hr hb; have HR := n0_; have HB := n1_; clear n0_ n1_) | (go_at_call 27; (with_reducible refine (HS2.out _ _ HB.out GE.out HR.out).mono ?_); rintro e w' ⟨rfl, hr, hb⟩; have n0_ := Aside0.mk hr; have n1_ := Aside0.mk hb; clear HR HB hr hb; have HR := n0_; have HB := n1_; clear n0_ n1_) | (go_at_call 28; (with_reducible refine (HD3.out _ _ HB.out GE.out HR.out).mono ?_); rintro e w' ⟨rfl, hr, hb⟩; have n0_ := Aside0.mk hr; have n1_ := Aside0.mk hb; clear HR HB hr hb; have HR := n0_; have HB := n1_; clear n0_ n1_) | (go_at_call 30; (with_reducible refine (HX.out _).mono ?_); rintro e w' ⟨rfl, hb⟩; replace HR := Aside0.mk (show Rd _ g1 _ from blk_below HR.out hb); replace HB := bt_ HB hb; clear hb; have zz : w'.cell? ⟨g1, 0, none⟩ = some (.string s6) := by rw [← HS6.out]; exact (blk_cell HR.out 0).trans rfl) | (go_at_call 31; (with_reducible refine (HF.out _).mono ?_); rintro e w' ⟨rfl, hb⟩; replace HB := bt_ HB hb; clear hb))
     go_ret2
     exact ⟨by rw [← HRES.out, if_neg HC.out]; rfl, HB.out⟩
  ·have hes' : (qE l || qS l) = false := by cases e : (qE l || qS l) with | true => exact absurd e hes | false => rfl
   have hq6 : q6 l = q5 l := by unfold q6; rw [if_neg hes]
   rw [hq6] at HS6
   have hE : qE l = false := (Bool.or_eq_false_iff.1 hes').1
   have hS : qS l = false := (Bool.or_eq_false_iff.1 hes').2
   have hx : ex = 0 := by rw [← HEX.out]; unfold qx; rw [if_neg hes]
   have w4 := W4.out hx
   have w5 : IntKind.i64.wrap (-zB) = e' := (i64_w _).trans w4
   clear HEX
   subst hx
   rw [hE] at HE
   rw [hS] at HS2
   clear hE hS hes' HX HD3
   by_cases h6 : q5 l = []
   ·have d1 : s6.toList = [] := by rw [hl6.out]; exact hq6.trans h6
    have d2 : s6.toList.isEmpty = true := by rw [d1]; rfl
    have HC := Aside0.mk (show q6 l = [] from hq6.trans h6)
    clear h6 hq6 hes
    go_wp2_with (first | (go_at_call 29; (with_reducible refine (HE.out _ _ HB.out GE.out HR.out).mono ?_); rintro e w' ⟨rfl, hr, hb⟩; have n0_ := Aside0.mk hr; have n1_ := Aside0.mk hb; clear HR HB hr hb; have HR := n0_; have HB := n1_; clear n0_ n1_) | (go_at_call 27; (with_reducible refine (HS2.out _ _ HB.out GE.out HR.out).mono ?_); rintro e w' ⟨rfl, hr, hb⟩; have n0_ := Aside0.mk hr; have n1_ := Aside0.mk hb; clear HR HB hr hb; have HR := n0_; have HB := n1_; clear n0_ n1_; have zz : w'.cell? ⟨g1, 0, none⟩ = some (.string s6) := by rw [← HS6.out]; exact (blk_cell HR.out 0).trans rfl) | (go_at_call 31; (with_reducible refine (HF.out _).mono ?_); rintro e w' ⟨rfl, hb⟩; replace HB := bt_ HB hb; clear hb))
    go_ret2
    exact ⟨by rw [← HRES.out, if_pos HC.out]; rfl, HB.out⟩
   ·have d1 : ¬ s6.toList = [] := by rw [hl6.out]; exact fun h => h6 (hq6.symm.trans h)
    have d2 : s6.toList.isEmpty = false := by
     cases e : s6.toList with
     | nil => exact absurd e d1
     | cons a b => rfl
    have HC := Aside0.mk (show ¬ q6 l = [] from fun h => h6 (hq6.symm.trans h))
    clear h6 hq6 hes
    go_wp2_with (first | (go_at_call 29; (with_reducible refine (HE.out _ _ HB.out GE.out HR.out).mono ?_); rintro e w' ⟨rfl, hr, hb⟩; have n0_ := Aside0.mk hr; have n1_ := Aside0.mk hb; clear HR HB hr hb; have HR := n0_; have HB := n1_; clear n0_ n1_) | (go_at_call 27; (with_reducible refine (HS2.out _ _ HB.out GE.out HR.out).mono ?_); rintro e w' ⟨rfl, hr, hb⟩; have n0_ := Aside0.mk hr; have n1_ := Aside0.mk hb; clear HR HB hr hb; have HR := n0_; have HB := n1_; clear n0_ n1_; have zz : w'.cell? ⟨g1, 0, none⟩ = some (.string s6) := by rw [← HS6.out]; exact (blk_cell HR.out 0).trans rfl) | (go_at_call 31; (with_reducible refine (HF.out _).mono ?_); rintro e w' ⟨rfl, hb⟩; replace HB := bt_ HB hb; clear hb))
    go_ret2
    exact ⟨by rw [← HRES.out, if_neg HC.out]; rfl, HB.out⟩
 ·have hp' : qp l = false := by cases e : qp l with | true => exact absurd e hp | false => rfl
  have hnB : qB l = [] := by unfold qB; rw [hp']; rfl
  have m1 : after [46] (q2 l) = q2 l := by unfold after; rw [if_neg (by rw [n4]; exact hp)]
  have m3 : q2 l = q3 l := by unfold q3; rw [hp']; rfl
  rw [m1, hp', m3] at HP
  rw [m3] at HD1
  have c8 : sA = sAB := by rw [← hsA, ← hsAB, hnB, List.append_nil]
  have c8' : zB = 0 := by rw [← hzB, hlB, hnB]; rfl
  subst c8 c8'
  have c9 : ¬ 9223372036854775807 < sA.size := by omega
  have w3 : ex = e' := by omega
  subst w3
  have c7 : sA ++ ⟨#[]⟩ = sA := by apply ByteArray.ext; simp
  have w6 : wrap64 ex = ex := i64_id (by omega) (by omega)
  have w7 : IntKind.i64.wrap ex = ex := (i64_w _).trans w6
  clear m3 hp' hnB HD2 hAB c4 w1 w2 hzB hexb hzB' k1 k2 k3 hql h h2 h3 ht hp46 hp4 n1 n2 n3 n4 n5 n6 n7 n8 n9 hs hneg hABl hsAB hsA hsB hp m1 hlA hlB hs6 he' hsx
  go_enter Tryz.func10, Tryz.ntmps10
  go_upto_region 14 with (first | (go_at_call 26; (with_reducible refine (HT.out _).mono ?_); rintro e w' ⟨rfl, hw⟩; replace HB := Aside0.mk (below_or HB.out hw); clear hw) | ((with_reducible refine gate_dst (N := 26) rfl ?_); refine box_event ?hg (N := 26) ?hd (cs := #[.string s]) (t := 46) ?hr ?_; (case hd => rfl); (case hg => rfl); (case hr => first | (go_simp; done) | (go_simp; rfl)); intro g1 hg w4 hbox hb; have n0_ := Aside0.mk (show Rd w4 g1 l by unfold Rd; rw [HSE.out]; exact hbox); have n2_ := Aside0.mk ((by rw [hg]; exact (below_size HB.out)) : w.heap.size ≤ g1); have n1_ := Aside0.mk (below_step HB.out hb); clear HB; have HB := n1_; have HR := n0_; have GE := n2_; clear n0_ n1_ n2_; clear hb hbox hg) | (go_at_call 27; (with_reducible refine (HS1.out _ _ HB.out GE.out HR.out).mono ?_); rintro e w' ⟨rfl, hr, hb⟩; have n0_ := Aside0.mk hr; have n1_ := Aside0.mk hb; clear HR HB hr hb; have HR := n0_; have HB := n1_; clear n0_ n1_) | (go_at_call 28; (with_reducible refine (HD1.out _ _ HB.out GE.out HR.out).mono ?_); rintro e w' ⟨rfl, hr, hb⟩; have n0_ := Aside0.mk hr; have n1_ := Aside0.mk hb; clear HR HB hr hb; have HR := n0_; have HB := n1_; clear n0_ n1_) | (go_at_call 29; (with_reducible refine (HP.out _ _ HB.out GE.out HR.out).mono ?_); rintro e w' ⟨rfl, hr, hb⟩; have n0_ := Aside0.mk hr; have n1_ := Aside0.mk hb; clear HR HB hr hb; have HR := n0_; have HB := n1_; clear n0_ n1_))
  by_cases hes : (qE l || qS l) = true
  ·have hq6 : q6 l = past (q5 l) := by unfold q6; rw [if_pos hes]
   rw [hq6] at HS6
   have hx : expo (qm l) (dg (q5 l)) = ex := by rw [← HEX.out]; unfold qx; rw [if_pos hes]
   rw [hx] at HX
   cases hE : qE l with
   | true =>
    rw [hE] at HE
    clear hE hx
    by_cases h6 : past (q5 l) = []
    ·have d1 : s6.toList = [] := by rw [hl6.out]; exact hq6.trans h6
     have d2 : s6.toList.isEmpty = true := by rw [d1]; rfl
     have HC := Aside0.mk (show q6 l = [] from hq6.trans h6)
     clear h6 hq6 hes
     go_wp2_with (first | (go_at_call 29; (with_reducible refine (HE.out _ _ HB.out GE.out HR.out).mono ?_); rintro e w' ⟨rfl, hr, hb⟩; have n0_ := Aside0.mk hr; have n1_ := Aside0.mk hb; clear HR HB hr hb; have HR := n0_; have HB := n1_; clear n0_ n1_) | (go_at_call 27; (with_reducible refine (HS2.out _ _ HB.out GE.out HR.out).mono ?_); rintro e w' ⟨rfl, hr, hb⟩; have n0_ := Aside0.mk hr; have n1_ := Aside0.mk hb; clear HR HB hr hb; have HR := n0_; have HB := n1_; clear n0_ n1_) | (go_at_call 28; (with_reducible refine (HD3.out _ _ HB.out GE.out HR.out).mono ?_); rintro e w' ⟨rfl, hr, hb⟩; have n0_ := Aside0.mk hr; have n1_ := Aside0.mk hb; clear HR HB hr hb; have HR := n0_; have HB := n1_; clear n0_ n1_) | (go_at_call 30; (with_reducible refine (HX.out _).mono ?_); rintro e w' ⟨rfl, hb⟩; replace HR := Aside0.mk (show Rd _ g1 _ from blk_below HR.out hb); replace HB := bt_ HB hb; clear hb; have zz : w'.cell? ⟨g1, 0, none⟩ = some (.string s6) := by rw [← HS6.out]; exact (blk_cell HR.out 0).trans rfl) | (go_at_call 31; (with_reducible refine (HF.out _).mono ?_); rintro e w' ⟨rfl, hb⟩; replace HB := bt_ HB hb; clear hb))
     go_ret2
     exact ⟨by rw [← HRES.out, if_pos HC.out]; rfl, HB.out⟩
    ·have d1 : ¬ s6.toList = [] := by rw [hl6.out]; exact fun h => h6 (hq6.symm.trans h)
     have d2 : s6.toList.isEmpty = false := by
      cases e : s6.toList with
      | nil => exact absurd e d1
      | cons a b => rfl
     have HC := Aside0.mk (show ¬ q6 l = [] from fun h => h6 (hq6.symm.trans h))
     clear h6 hq6 hes
     go_wp2_with (first | (go_at_call 29; (with_reducible refine (HE.out _ _ HB.out GE.out HR.out).mono ?_); rintro e w' ⟨rfl, hr, hb⟩; have n0_ := Aside0.mk hr; have n1_ := Aside0.mk hb; clear HR HB hr hb; have HR := n0_; have HB := n1_; clear n0_ n1_) | (go_at_call 27; (with_reducible refine (HS2.out _ _ HB.out GE.out HR.out).mono ?_); rintro e w' ⟨rfl, hr, hb⟩; have n0_ := Aside0.mk hr; have n1_ := Aside0.mk hb; clear HR HB hr hb; have HR := n0_; have HB := n1_; clear n0_ n1_) | (go_at_call 28; (with_reducible refine (HD3.out _ _ HB.out GE.out HR.out).mono ?_); rintro e w' ⟨rfl, hr, hb⟩; have n0_ := Aside0.mk hr; have n1_ := Aside0.mk hb; clear HR HB hr hb; have HR := n0_; have HB := n1_; clear n0_ n1_) | (go_at_call 30; (with_reducible refine (HX.out _).mono ?_); rintro e w' ⟨rfl, hb⟩; replace HR := Aside0.mk (show Rd _ g1 _ from blk_below HR.out hb); replace HB := bt_ HB hb; clear hb; have zz : w'.cell? ⟨g1, 0, none⟩ = some (.string s6) := by rw [← HS6.out]; exact (blk_cell HR.out 0).trans rfl) | (go_at_call 31; (with_reducible refine (HF.out _).mono ?_); rintro e w' ⟨rfl, hb⟩; replace HB := bt_ HB hb; clear hb))
     go_ret2
     exact ⟨by rw [← HRES.out, if_neg HC.out]; rfl, HB.out⟩
   | false =>
    have hS : qS l = true := by rw [hE, Bool.false_or] at hes; exact hes
    rw [hE] at HE
    rw [hS] at HS2
    clear hE hx hS
    by_cases h6 : past (q5 l) = []
    ·have d1 : s6.toList = [] := by rw [hl6.out]; exact hq6.trans h6
     have d2 : s6.toList.isEmpty = true := by rw [d1]; rfl
     have HC := Aside0.mk (show q6 l = [] from hq6.trans h6)
     clear h6 hq6 hes
     go_wp2_with (first | (go_at_call 29; (with_reducible refine (HE.out _ _ HB.out GE.out HR.out).mono ?_); rintro e w' ⟨rfl, hr, hb⟩; have n0_ := Aside0.mk hr; have n1_ := Aside0.mk hb; clear HR HB hr hb; have HR := n0_; have HB := n1_; clear n0_ n1_) | (go_at_call 27; (with_reducible refine (HS2.out _ _ HB.out GE.out HR.out).mono ?_); rintro e w' ⟨rfl, hr, hb⟩; have n0_ := Aside0.mk hr; have n1_ := Aside0.mk hb; clear HR HB hr hb; have HR := n0_; have HB := n1_; clear n0_ n1_) | (go_at_call 28; (with_reducible refine (HD3.out _ _ HB.out GE.out HR.out).mono ?_); rintro e w' ⟨rfl, hr, hb⟩; have n0_ := Aside0.mk hr; have n1_ := Aside0.mk hb; clear HR HB hr hb; have HR := n0_; have HB := n1_; clear n0_ n1_) | (go_at_call 30; (with_reducible refine (HX.out _).mono ?_); rintro e w' ⟨rfl, hb⟩; replace HR := Aside0.mk (show Rd _ g1 _ from blk_below HR.out hb); replace HB := bt_ HB hb; clear hb; have zz : w'.cell? ⟨g1, 0, none⟩ = some (.string s6) := by rw [← HS6.out]; exact (blk_cell HR.out 0).trans rfl) | (go_at_call 31; (with_reducible refine (HF.out _).mono ?_); rintro e w' ⟨rfl, hb⟩; replace HB := bt_ HB hb; clear hb))
     go_ret2
     exact ⟨by rw [← HRES.out, if_pos HC.out]; rfl, HB.out⟩
    ·have d1 : ¬ s6.toList = [] := by rw [hl6.out]; exact fun h => h6 (hq6.symm.trans h)
     have d2 : s6.toList.isEmpty = false := by
      cases e : s6.toList with
      | nil => exact absurd e d1
      | cons a b => rfl
     have HC := Aside0.mk (show ¬ q6 l = [] from fun h => h6 (hq6.symm.trans h))
     clear h6 hq6 hes
     go_wp2_with (first | (go_at_call 29; (with_reducible refine (HE.out _ _ HB.out GE.out HR.out).mono ?_); rintro e w' ⟨rfl, hr, hb⟩; have n0_ := Aside0.mk hr; have n1_ := Aside0.mk hb; clear HR HB hr hb; have HR := n0_; have HB := n1_; clear n0_ n1_) | (go_at_call 27; (with_reducible refine (HS2.out _ _ HB.out GE.out HR.out).mono ?_); rintro e w' ⟨rfl, hr, hb⟩; have n0_ := Aside0.mk hr; have n1_ := Aside0.mk hb; clear HR HB hr hb; have HR := n0_; have HB := n1_; clear n0_ n1_) | (go_at_call 28; (with_reducible refine (HD3.out _ _ HB.out GE.out HR.out).mono ?_); rintro e w' ⟨rfl, hr, hb⟩; have n0_ := Aside0.mk hr; have n1_ := Aside0.mk hb; clear HR HB hr hb; have HR := n0_; have HB := n1_; clear n0_ n1_) | (go_at_call 30; (with_reducible refine (HX.out _).mono ?_); rintro e w' ⟨rfl, hb⟩; replace HR := Aside0.mk (show Rd _ g1 _ from blk_below HR.out hb); replace HB := bt_ HB hb; clear hb; have zz : w'.cell? ⟨g1, 0, none⟩ = some (.string s6) := by rw [← HS6.out]; exact (blk_cell HR.out 0).trans rfl) | (go_at_call 31; (with_reducible refine (HF.out _).mono ?_); rintro e w' ⟨rfl, hb⟩; replace HB := bt_ HB hb; clear hb))
     go_ret2
     exact ⟨by rw [← HRES.out, if_neg HC.out]; rfl, HB.out⟩
  ·have hes' : (qE l || qS l) = false := by cases e : (qE l || qS l) with | true => exact absurd e hes | false => rfl
   have hq6 : q6 l = q5 l := by unfold q6; rw [if_neg hes]
   rw [hq6] at HS6
   have hE : qE l = false := (Bool.or_eq_false_iff.1 hes').1
   have hS : qS l = false := (Bool.or_eq_false_iff.1 hes').2
   have hx : ex = 0 := by rw [← HEX.out]; unfold qx; rw [if_neg hes]
   clear HEX
   subst hx
   rw [hE] at HE
   rw [hS] at HS2
   clear hE hS hes' HX HD3
   by_cases h6 : q5 l = []
   ·have d1 : s6.toList = [] := by rw [hl6.out]; exact hq6.trans h6
    have d2 : s6.toList.isEmpty = true := by rw [d1]; rfl
    have HC := Aside0.mk (show q6 l = [] from hq6.trans h6)
    clear h6 hq6 hes
    go_wp2_with (first | (go_at_call 29; (with_reducible refine (HE.out _ _ HB.out GE.out HR.out).mono ?_); rintro e w' ⟨rfl, hr, hb⟩; have n0_ := Aside0.mk hr; have n1_ := Aside0.mk hb; clear HR HB hr hb; have HR := n0_; have HB := n1_; clear n0_ n1_) | (go_at_call 27; (with_reducible refine (HS2.out _ _ HB.out GE.out HR.out).mono ?_); rintro e w' ⟨rfl, hr, hb⟩; have n0_ := Aside0.mk hr; have n1_ := Aside0.mk hb; clear HR HB hr hb; have HR := n0_; have HB := n1_; clear n0_ n1_; have zz : w'.cell? ⟨g1, 0, none⟩ = some (.string s6) := by rw [← HS6.out]; exact (blk_cell HR.out 0).trans rfl) | (go_at_call 31; (with_reducible refine (HF.out _).mono ?_); rintro e w' ⟨rfl, hb⟩; replace HB := bt_ HB hb; clear hb))
    go_ret2
    exact ⟨by rw [← HRES.out, if_pos HC.out]; rfl, HB.out⟩
   ·have d1 : ¬ s6.toList = [] := by rw [hl6.out]; exact fun h => h6 (hq6.symm.trans h)
    have d2 : s6.toList.isEmpty = false := by
     cases e : s6.toList with
     | nil => exact absurd e d1
     | cons a b => rfl
    have HC := Aside0.mk (show ¬ q6 l = [] from fun h => h6 (hq6.symm.trans h))
    clear h6 hq6 hes
    go_wp2_with (first | (go_at_call 29; (with_reducible refine (HE.out _ _ HB.out GE.out HR.out).mono ?_); rintro e w' ⟨rfl, hr, hb⟩; have n0_ := Aside0.mk hr; have n1_ := Aside0.mk hb; clear HR HB hr hb; have HR := n0_; have HB := n1_; clear n0_ n1_) | (go_at_call 27; (with_reducible refine (HS2.out _ _ HB.out GE.out HR.out).mono ?_); rintro e w' ⟨rfl, hr, hb⟩; have n0_ := Aside0.mk hr; have n1_ := Aside0.mk hb; clear HR HB hr hb; have HR := n0_; have HB := n1_; clear n0_ n1_; have zz : w'.cell? ⟨g1, 0, none⟩ = some (.string s6) := by rw [← HS6.out]; exact (blk_cell HR.out 0).trans rfl) | (go_at_call 31; (with_reducible refine (HF.out _).mono ?_); rintro e w' ⟨rfl, hb⟩; replace HB := bt_ HB hb; clear hb))
    go_ret2
    exact ⟨by rw [← HRES.out, if_neg HC.out]; rfl, HB.out⟩
theorem d_Parse (w : World) (l : List UInt8) :
  Calls Tryz.prog 10 #[.string (bs l)] w fun e w' => e = .returned (.tuple #[.int .u64 ((parseN l).1 : Nat), .bool (parseN l).2]) ∧ Below w.heap.size w w' := by
 unfold parseN
 by_cases h : 400 < l.length
 ·rw [if_pos h]; exact d_Parse_long w l h
 rw [if_neg h]
 by_cases h2 : l.all (· == 32) = true
 ·rw [if_pos h2]; exact d_Parse_blank w l (by omega) h2
 rw [if_neg h2]
 by_cases h3 : qA l ++ qB l = []
 ·rw [if_pos h3]; exact d_Parse_none w l (by omega) h2 h3
 rw [if_neg h3]
 have k := d_Parse_some w l (by omega) h2 h3 _ rfl
 by_cases h4 : q6 l = []
 ·rw [if_pos h4] at k ⊢; exact k
 ·rw [if_neg h4] at k ⊢; exact k
end Go.Proofs.YtdoeigngpemcgaaGreatDoor.Dec
namespace Go.Proofs.YtdoeigngpemcgaaGreatDoor.Dec
open Go.RowKit Go.Flt Go.Read Go.Proofs.YtdoeigngpemcgaaGreatDoor.PDec Go.Proofs.YtdoeigngpemcgaaGreatDoor.Pure Go.Proofs.YtdoeigngpemcgaaGreatDoorW.PrintWords Go.Proofs.YtdoeigngpemcgaaGreatDoorW.PrintLast Go.Proofs.YtdoeigngpemcgaaGreatDoorW.PrintMore
theorem awake_parse : parseN [49, 46, 53, 69, 51] = (4654311885213007872, true) := by kernel_rfl
theorem awake_dex : Dex (fmant 4654311885213007872) (fpow 4654311885213007872) 4 := ⟨by kernel_rfl, by kernel_rfl⟩
theorem awake_fixed : shownV 4654311885213007872 (fixedV (repText 4654311885213007872 (many 6)) (repExp 4654311885213007872 (many 6)) (many 6)) = [49, 53, 48, 48, 46, 48, 48] := by
 unfold repText repExp
 rw [dex_eq awake_dex]
 kernel_rfl
set_option maxRecDepth 100000 in
theorem awake_any (w : World) : Calls Tryz.prog 12 #[] w fun e w' => e = .returned (.bool true) ∧ Below w.heap.size w w' := by
 have HP : Aside0 (∀ w, Calls Tryz.prog 10 #[.string ⟨#[49, 46, 53, 69, 51]⟩] w fun e w' => e = .returned (.tuple #[.int .u64 4654311885213007872, .bool true]) ∧ Below w.heap.size w w') := ⟨fun w => by
  have h := d_Parse w [49, 46, 53, 69, 51]
  rw [awake_parse] at h
  exact h⟩
 have HF : Aside0 (∀ w, Calls Tryz.prog 20 #[.int .u64 4654311885213007872, .int .i64 6] w fun x w' => x = .returned (.string ⟨#[49, 53, 48, 48, 46, 48, 48]⟩) ∧ Below w.heap.size w w') := ⟨fun w => by
  have h := d_Fixed w 4654311885213007872 (by decide) 6
  rw [awake_fixed] at h
  exact h⟩
 have HB := Aside0.mk (Below.refl w.heap.size w)
 go_enter Tryz.func12, Tryz.ntmps12
 go_wp2_with (first | (go_at_call 10; (with_reducible refine (HP.out _).mono ?_); rintro q w' ⟨rfl, hb⟩; replace HB := bt_ HB hb; clear hb) | (go_at_call 20; (with_reducible refine (HF.out _).mono ?_); rintro q w' ⟨rfl, hb⟩; replace HB := bt_ HB hb; clear hb))
 go_ret
 exact ⟨rfl, HB.out⟩
end Go.Proofs.YtdoeigngpemcgaaGreatDoor.Dec
namespace Go.Read
open Go.Flt Go.Proofs.YtdoeigngpemcgaaGreatDoor Go.Proofs.YtdoeigngpemcgaaGreatDoor.Dec
/-- no digit stands first -/
def stop (l : List UInt8) : Prop := ∀ c t, l = c :: t → isd c = false
end Go.Read
namespace Go.Flt
open Go.Num
end Go.Flt
namespace Go.Proofs.YtdoeigngpemcgaaGreatDoor.Dec
open Go.RowKit Go.Flt Go.Read Go.Proofs.YtdoeigngpemcgaaGreatDoor.PDec Go.Proofs.YtdoeigngpemcgaaGreatDoor.Pure Go.Proofs.YtdoeigngpemcgaaGreatDoorW.PrintWords Go.Proofs.YtdoeigngpemcgaaGreatDoorW.PrintLast Go.Proofs.YtdoeigngpemcgaaGreatDoorW.PrintMore
theorem bs_app (a b : List UInt8) : bs a ++ bs b = bs (a ++ b) := by
 apply ByteArray.ext
 simp [bs]
end Go.Proofs.YtdoeigngpemcgaaGreatDoor.Dec
namespace Go.Proofs.YtdoeigngpemcgaaGreatDoor.Dec
open Go.RowKit Go.Flt Go.Read Go.Proofs.YtdoeigngpemcgaaGreatDoor.Pure Go.Proofs.YtdoeigngpemcgaaGreatDoorW.PrintWords Go.Proofs.YtdoeigngpemcgaaGreatDoorW.PrintLast Go.Proofs.YtdoeigngpemcgaaGreatDoorW.PrintMore
theorem r3_Split_any (w : World) (a : Nat) (ha : a < 18446744073709551616) : Calls Tryz.prog 41 #[.int .u64 (a : Int)] w fun e w' => ∃ neg v p, e = .returned (.tuple #[.bool neg, v, .int .i64 p, .bool (ffin a)]) ∧ Below w.heap.size w w' := by
 cases h : ffin a with
 | true =>
  refine (r3_Split_good w a ha h).mono ?_
  rintro e w' ⟨v, rfl, -, hb⟩
  exact ⟨_, _, _, rfl, hb⟩
 | false =>
  refine (r3_Split_bad w a ha h).mono ?_
  rintro e w' ⟨rfl, hb⟩
  exact ⟨_, _, _, rfl, hb⟩
/-- to the left, by any count -/
theorem r_Sh {w : World} {v : Value} {a : Nat} (h0 : Nm w v a) (fa : Fit a) (m : Int) (hm0 : 0 ≤ m) (hm : m ≤ 63000) (hf : Fit (a * 2 ^ m.toNat)) :
  Calls Tryz.prog 43 #[v, .int .i64 m] w fun e w' => ∃ r, e = .returned (.tuple #[r, .int .i64 0]) ∧ Nm w' r (a * 2 ^ m.toNat) ∧ Below w.heap.size w w' := by
 obtain ⟨n, rfl⟩ : ∃ n : Nat, m = n := ⟨m.toNat, by omega⟩
 rw [Int.toNat_natCast] at hf ⊢
 rcases Nat.eq_zero_or_pos n with z | z
 ·subst z
  have h := r_Shr h0 fa 0 (by omega)
  rw [Nat.pow_zero, Nat.div_one] at h
  rw [Nat.pow_zero, Nat.mul_one]
  exact h
 ·exact r_Shl h0 fa n z (by omega) hf
theorem tdiv_bound4 (s : Int) (h : -40000000 ≤ s) (h2 : s ≤ 40000000) : -400 ≤ s.tdiv 100000 ∧ s.tdiv 100000 ≤ 400 := by
 rcases Int.le_total 0 s with c | c
 ·rw [Int.tdiv_eq_ediv_of_nonneg c]
  omega
 ·obtain ⟨z, hz⟩ : ∃ z, s = -z := ⟨-s, by omega⟩
  subst hz
  rw [Int.neg_tdiv, Int.tdiv_eq_ediv_of_nonneg (by omega)]
  omega
set_option maxRecDepth 100000 in
theorem r4_Rep_bad (w : World) (a : Nat) (ha : a < 18446744073709551616) (n : Int) (h : n < 1 ∨ 40 < n ∨ ffin a = false) : Calls Tryz.prog 14 #[.int .u64 (a : Int), .int .i64 n] w fun e w' => e = .returned (.tuple #[.agg #[.string ⟨#[]⟩, .int .i64 0, .bool false], .int .i64 1]) ∧ Below w.heap.size w w' := by
 have HS := Aside0.mk (fun w => r3_Split_any w a ha)
 obtain ⟨aa, haa⟩ : ∃ z : Int, (a : Int) = z := ⟨_, rfl⟩
 obtain ⟨fin, hfin⟩ : ∃ z, ffin a = z := ⟨_, rfl⟩
 rw [haa, hfin] at HS
 rw [hfin] at h
 rw [haa]
 clear ha haa hfin
 by_cases c1 : n < 1
 ·have d1 := decide_eq_true c1
  clear h c1
  go_enter Tryz.func14, Tryz.ntmps14
  go_upto_region 1 with (fail)
  obtain ⟨g, hg⟩ : ∃ g, w.heap.size = g := ⟨_, rfl⟩
  generalize hW : w.alloc _ = W1
  have BK := Aside0.mk (show W1.heap[g]? = some (.cells #[.string ⟨#[]⟩, .int .i64 0, .bool false] 28 (0, 0)) by rw [← hW, ← hg]; exact blk_new _ _)
  have HB := Aside0.mk (show Below w.heap.size w W1 by rw [← hW]; exact below_alloc (Below.refl _ _) _)
  have GE := Aside0.mk (show w.heap.size ≤ g by omega)
  clear hW
  rw [hg]
  clear hg
  go_wp2_with ((go_at_call 41; (with_reducible refine (HS.out _).mono ?_); rintro e w' ⟨neg, v, p, rfl, hb⟩; replace HB := bt_ HB hb; replace BK := Aside0.mk (blk_below BK.out hb); have z0 := (blk_cell BK.out 0).trans (show _ = some (Value.string ⟨#[]⟩) from rfl); have z1 := (blk_cell BK.out 1).trans (show _ = some (Value.int .i64 0) from rfl); have z2 := (blk_cell BK.out 2).trans (show _ = some (Value.bool false) from rfl); have f0 := blk_frozen BK.out 0; have f1 := blk_frozen BK.out 1; have f2 := blk_frozen BK.out 2; clear hb))
  refine bodyPost_ret (res_row_tmp rfl _ _ g 28 #[.string ⟨#[]⟩, .int .i64 0, .bool false] (0, 0) _ rfl (by refine blk_put (cs := #[.string ⟨#[]⟩, .int .i64 0, .bool false]) ?_ 2 _ rfl; refine blk_put (cs := #[.string ⟨#[]⟩, .int .i64 0, .bool false]) ?_ 1 _ rfl; refine blk_put (cs := #[.string ⟨#[]⟩, .int .i64 0, .bool false]) ?_ 0 _ rfl; exact BK.out) Tryz.underlying28 rfl (by kernel_rfl)) rfl ?_
  exact ⟨rfl, below_set (below_set (below_set HB.out GE.out) GE.out) GE.out⟩
 have d1 := decide_eq_false c1
 by_cases c2 : 40 < n
 ·have d2 := decide_eq_true c2
  clear h c1 c2
  go_enter Tryz.func14, Tryz.ntmps14
  go_upto_region 1 with (fail)
  obtain ⟨g, hg⟩ : ∃ g, w.heap.size = g := ⟨_, rfl⟩
  generalize hW : w.alloc _ = W1
  have BK := Aside0.mk (show W1.heap[g]? = some (.cells #[.string ⟨#[]⟩, .int .i64 0, .bool false] 28 (0, 0)) by rw [← hW, ← hg]; exact blk_new _ _)
  have HB := Aside0.mk (show Below w.heap.size w W1 by rw [← hW]; exact below_alloc (Below.refl _ _) _)
  have GE := Aside0.mk (show w.heap.size ≤ g by omega)
  clear hW
  rw [hg]
  clear hg
  go_wp2_with ((go_at_call 41; (with_reducible refine (HS.out _).mono ?_); rintro e w' ⟨neg, v, p, rfl, hb⟩; replace HB := bt_ HB hb; replace BK := Aside0.mk (blk_below BK.out hb); have z0 := (blk_cell BK.out 0).trans (show _ = some (Value.string ⟨#[]⟩) from rfl); have z1 := (blk_cell BK.out 1).trans (show _ = some (Value.int .i64 0) from rfl); have z2 := (blk_cell BK.out 2).trans (show _ = some (Value.bool false) from rfl); have f0 := blk_frozen BK.out 0; have f1 := blk_frozen BK.out 1; have f2 := blk_frozen BK.out 2; clear hb))
  refine bodyPost_ret (res_row_tmp rfl _ _ g 28 #[.string ⟨#[]⟩, .int .i64 0, .bool false] (0, 0) _ rfl (by refine blk_put (cs := #[.string ⟨#[]⟩, .int .i64 0, .bool false]) ?_ 2 _ rfl; refine blk_put (cs := #[.string ⟨#[]⟩, .int .i64 0, .bool false]) ?_ 1 _ rfl; refine blk_put (cs := #[.string ⟨#[]⟩, .int .i64 0, .bool false]) ?_ 0 _ rfl; exact BK.out) Tryz.underlying28 rfl (by kernel_rfl)) rfl ?_
  exact ⟨rfl, below_set (below_set (below_set HB.out GE.out) GE.out) GE.out⟩
 ·have d2 := decide_eq_false c2
  have d3 : fin = false := by rcases h with h | h | h; exact absurd h c1; exact absurd h c2; exact h
  subst d3
  clear h c1 c2
  go_enter Tryz.func14, Tryz.ntmps14
  go_upto_region 1 with (fail)
  obtain ⟨g, hg⟩ : ∃ g, w.heap.size = g := ⟨_, rfl⟩
  generalize hW : w.alloc _ = W1
  have BK := Aside0.mk (show W1.heap[g]? = some (.cells #[.string ⟨#[]⟩, .int .i64 0, .bool false] 28 (0, 0)) by rw [← hW, ← hg]; exact blk_new _ _)
  have HB := Aside0.mk (show Below w.heap.size w W1 by rw [← hW]; exact below_alloc (Below.refl _ _) _)
  have GE := Aside0.mk (show w.heap.size ≤ g by omega)
  clear hW
  rw [hg]
  clear hg
  go_wp2_with ((go_at_call 41; (with_reducible refine (HS.out _).mono ?_); rintro e w' ⟨neg, v, p, rfl, hb⟩; replace HB := bt_ HB hb; replace BK := Aside0.mk (blk_below BK.out hb); have z0 := (blk_cell BK.out 0).trans (show _ = some (Value.string ⟨#[]⟩) from rfl); have z1 := (blk_cell BK.out 1).trans (show _ = some (Value.int .i64 0) from rfl); have z2 := (blk_cell BK.out 2).trans (show _ = some (Value.bool false) from rfl); have f0 := blk_frozen BK.out 0; have f1 := blk_frozen BK.out 1; have f2 := blk_frozen BK.out 2; clear hb))
  refine bodyPost_ret (res_row_tmp rfl _ _ g 28 #[.string ⟨#[]⟩, .int .i64 0, .bool false] (0, 0) _ rfl (by refine blk_put (cs := #[.string ⟨#[]⟩, .int .i64 0, .bool false]) ?_ 2 _ rfl; refine blk_put (cs := #[.string ⟨#[]⟩, .int .i64 0, .bool false]) ?_ 1 _ rfl; refine blk_put (cs := #[.string ⟨#[]⟩, .int .i64 0, .bool false]) ?_ 0 _ rfl; exact BK.out) Tryz.underlying28 rfl (by kernel_rfl)) rfl ?_
  exact ⟨rfl, below_set (below_set (below_set HB.out GE.out) GE.out) GE.out⟩
set_option maxRecDepth 100000 in
theorem r4_Rep_zero (w : World) (a : Nat) (ha : a < 18446744073709551616) (hf : ffin a = true) (hz : fmant a = 0) (n : Int) (h0 : 1 ≤ n) (h1 : n ≤ 40) : Calls Tryz.prog 14 #[.int .u64 (a : Int), .int .i64 n] w fun e w' => e = .returned (.tuple #[.agg #[.string (bs (List.replicate n.toNat 48)), .int .i64 0, .bool (fneg a)], .int .i64 0]) ∧ Below w.heap.size w w' := by
 have HS := Aside0.mk (fun w => r3_Split_good w a ha hf)
 obtain ⟨aa, haa⟩ : ∃ z : Int, (a : Int) = z := ⟨_, rfl⟩
 obtain ⟨neg, hneg⟩ : ∃ z, fneg a = z := ⟨_, rfl⟩
 obtain ⟨t, ht⟩ : ∃ z, bs (List.replicate n.toNat 48) = z := ⟨_, rfl⟩
 have HTT := Aside0.mk ht
 rw [haa, hneg, hz] at HS
 rw [haa, hneg, ht]
 have d1 := decide_eq_false (show ¬ n < 1 by omega)
 have d2 := decide_eq_false (show ¬ 40 < n by omega)
 have HZ := Aside0.mk (show (Num.wordsN 0).length = 0 by rw [Num.wordsN_zero]; rfl)
 have HN := Aside0.mk (show 1 ≤ n ∧ n ≤ 40 by omega)
 clear ha hf hz haa hneg h0 h1 ht
 go_enter Tryz.func14, Tryz.ntmps14
 go_upto_region 1 with (fail)
 obtain ⟨g, hg⟩ : ∃ g, w.heap.size = g := ⟨_, rfl⟩
 generalize hW : w.alloc _ = W1
 have BK := Aside0.mk (show W1.heap[g]? = some (.cells #[.string ⟨#[]⟩, .int .i64 0, .bool false] 28 (0, 0)) by rw [← hW, ← hg]; exact blk_new _ _)
 have HB := Aside0.mk (show Below w.heap.size w W1 by rw [← hW]; exact below_alloc (Below.refl _ _) _)
 have GE := Aside0.mk (show w.heap.size ≤ g by omega)
 clear hW
 rw [hg]
 clear hg
 go_wp2_with (first | (go_at_call 41; (with_reducible refine (HS.out _).mono ?_); rintro e w' ⟨v, rfl, hv, hb⟩; obtain ⟨A, c, hva, -, -, -⟩ := hv.open; rw [HZ.out] at hva; subst hva; clear hv; replace HB := bt_ HB hb; replace BK := Aside0.mk (blk_below BK.out hb); clear hb))
 go_loopg [10, 11] n.toNat (fun kq v10 v11 wr => ∃ (i : Nat) (s : ByteArray), v10 = .string s ∧ v11 = .int .i64 (i : Int) ∧ Aside0 (bs (List.replicate i 48) = s) ∧ Aside0 (i + kq = n.toNat) ∧ Aside0 (Below w.heap.size w wr) ∧ Aside0 (wr.heap[g]? = some (.cells #[.string ⟨#[]⟩, .int .i64 0, .bool false] 28 (0, 0))))
 case atStart => exact ⟨0, _, rfl, rfl, ⟨rfl⟩, ⟨Nat.zero_add _⟩, HB, BK⟩
 case round =>
  clear HB BK
  obtain ⟨i, s, rfl, rfl, HT, HI, HB, BK⟩ := hrel
  cases gk with
  | zero =>
   have hi : (i : Int) = n := by have := HI.out; have := HN.out; omega
   have c1 := decide_eq_false (show ¬ (i : Int) < n by omega)
   have hst : s = t := by rw [← HT.out, ← HTT.out, show n.toNat = i by omega]
   subst hst
   clear hi
   have z0 := (blk_cell BK.out 0).trans (show _ = some (Value.string ⟨#[]⟩) from rfl); have z1 := (blk_cell BK.out 1).trans (show _ = some (Value.int .i64 0) from rfl); have z2 := (blk_cell BK.out 2).trans (show _ = some (Value.bool false) from rfl); have f0 := blk_frozen BK.out 0; have f1 := blk_frozen BK.out 1; have f2 := blk_frozen BK.out 2
   go_wp2
   refine bodyPost_ret (res_row_tmp rfl _ _ g 28 #[.string s, .int .i64 0, .bool neg] (0, 0) _ rfl (by refine blk_put (cs := #[.string s, .int .i64 0, .bool false]) ?_ 2 _ rfl; refine blk_put (cs := #[.string s, .int .i64 0, .bool false]) ?_ 1 _ rfl; refine blk_put (cs := #[.string ⟨#[]⟩, .int .i64 0, .bool false]) ?_ 0 _ rfl; exact BK.out) Tryz.underlying28 rfl (by kernel_rfl)) rfl ?_
   exact ⟨rfl, below_set (below_set (below_set HB.out GE.out) GE.out) GE.out⟩
  | succ j =>
   have c1 := decide_eq_true (show (i : Int) < n by have := HI.out; have := HN.out; omega)
   have W1 := wrp (x := (i : Int) + 1) (y := ((i + 1 : Nat) : Int)) (by have := HI.out; have := HN.out; omega)
   have HI2 := Aside0.mk (show i + 1 + j = n.toNat by have := HI.out; omega)
   obtain ⟨w1, w2⟩ := W1.out
   obtain ⟨s2, hs2⟩ : ∃ z, s ++ (⟨#[48]⟩ : ByteArray) = z := ⟨_, rfl⟩
   have HT2 := Aside0.mk (show bs (List.replicate (i + 1) 48) = s2 by
    rw [← hs2, ← HT.out, show (⟨#[48]⟩ : ByteArray) = bs [48] from rfl, bs_app, List.replicate_succ'])
   have y1 : ¬ 9223372036854775807 < s.size + 1 := by
    have := HI.out
    have := HN.out
    rw [← HT.out, bs_size, List.length_replicate]
    omega
   clear W1
   go_wp2
   go_roundg j
   case measure => omega
   case rel => exact ⟨i + 1, s2, by first | rfl | rw [hs2], by first | rfl | rw [w1] | rw [w2], HT2, HI2, HB, BK⟩
set_option maxRecDepth 100000 in
theorem r4_Rep_main (w : World) (a : Nat) (ha : a < 18446744073709551616) (hf : ffin a = true) (hz : 0 < fmant a) (n : Int) (h0 : 1 ≤ n) (h1 : n ≤ 40) (D : Int) (hD : Dex (fmant a) (fpow a) D) : Calls Tryz.prog 14 #[.int .u64 (a : Int), .int .i64 n] w fun e w' => e = .returned (.tuple #[.agg #[.string (bs (repT (fmant a) (fpow a) n D)), .int .i64 (repX (fmant a) (fpow a) n D), .bool (fneg a)], .int .i64 0]) ∧ Below w.heap.size w w' := by
 have HS := Aside0.mk (fun w => r3_Split_good w a ha hf)
 have hM := fmant_lt a
 obtain ⟨he1, he2⟩ := fpow_bound a hf
 obtain ⟨aa, haa⟩ : ∃ z : Int, (a : Int) = z := ⟨_, rfl⟩
 obtain ⟨neg, hneg⟩ : ∃ z, fneg a = z := ⟨_, rfl⟩
 rw [haa, hneg] at HS
 rw [haa, hneg]
 obtain ⟨M, hMM⟩ : ∃ z, fmant a = z := ⟨_, rfl⟩
 obtain ⟨e, hee⟩ : ∃ z, fpow a = z := ⟨_, rfl⟩
 rw [hMM, hee] at HS hD ⊢
 rw [hMM] at hM hz
 rw [hee] at he1 he2
 obtain ⟨hD1, hD2⟩ := hD.bound hz hM he1 he2
 have fM : Fit M := fit_lt hM (by omega)
 obtain ⟨ne, hne⟩ : ∃ z, -e = z := ⟨_, rfl⟩
 obtain ⟨B, hB⟩ : ∃ z, z = 1100 := ⟨_, rfl⟩
 obtain ⟨N, hN⟩ : ∃ z, M * 2 ^ e.toNat = z := ⟨_, rfl⟩
 obtain ⟨P, hP⟩ : ∃ z, 2 ^ ne.toNat = z := ⟨_, rfl⟩
 have hP0 : 0 < P := by rw [← hP]; exact Nat.two_pow_pos _
 have hN0 : 0 < N := by rw [← hN]; exact Nat.mul_pos hz (Nat.two_pow_pos _)
 have hNB : N < 2 ^ B := by
  have h2 := mul_lt_pow hM (two_lt e.toNat)
  rw [hN] at h2
  exact Nat.lt_of_lt_of_le h2 (Nat.pow_le_pow_right (by decide) (by omega))
 have hPB : P < 2 ^ B := by
  rw [← hP]
  exact Nat.lt_of_lt_of_le (two_lt ne.toNat) (Nat.pow_le_pow_right (by decide) (by omega))
 have fN : Fit N := fit_lt hNB (by omega)
 have fP : Fit P := fit_lt hPB (by omega)
 have SN := Aside0.mk (fun (w : World) (v : Value) (h : Nm w v M) (k : 0 ≤ e) => r_Sh h fM e k (by omega) (by rw [hN]; exact fN))
 have SP := Aside0.mk (fun (w : World) (v : Value) (h : Nm w v 1) (k : 0 ≤ ne) => r_Sh h (fit_lt (b := 1) (by decide) (by omega)) ne k (by omega) (by rw [Nat.one_mul, hP]; exact fP))
 rw [hN] at SN
 rw [Nat.one_mul, hP] at SP
 have hsame : ∀ x, decide (P * 10 ^ x.toNat ≤ N * 10 ^ (-x).toNat) = rch M e x := fun x => by
  unfold rch lhs rhs
  rw [← hN, ← hP, ← hne, Nat.mul_right_comm, Nat.mul_comm (10 ^ x.toNat)]
 have hnear : rndQ (N * 10 ^ (-(D - n)).toNat) (P * 10 ^ (D - n).toNat) = nearN M e (D - n) := by
  rw [near_rnd]
  unfold lhs rhs
  rw [← hN, ← hP, ← hne, Nat.mul_right_comm, Nat.mul_comm (10 ^ (D - n).toNat)]
 have HO : Aside0 (∀ w, Calls Tryz.prog 42 #[.int .u64 1] w fun e w' => ∃ r, e = .returned r ∧ Nm w' r 1 ∧ Below w.heap.size w w') := ⟨fun w => r_Of w 1 (by decide)⟩
 have BN := Aside0.mk (fun (w : World) (v : Value) (h : Nm w v N) => r_Bits h fN)
 have BP := Aside0.mk (fun (w : World) (v : Value) (h : Nm w v P) => r_Bits h fP)
 have hbN : Num.bitsN N ≤ B := bits_lt hNB
 have hbP : Num.bitsN P ≤ B := bits_lt hPB
 obtain ⟨bn, hbn⟩ : ∃ z : Int, ((Num.bitsN N : Nat) : Int) = z := ⟨_, rfl⟩
 obtain ⟨bp, hbp⟩ : ∃ z : Int, ((Num.bitsN P : Nat) : Int) = z := ⟨_, rfl⟩
 rw [hbn] at BN
 rw [hbp] at BP
 have hb0 : 0 ≤ bn ∧ bn ≤ 1100 ∧ 0 ≤ bp ∧ bp ≤ 1100 := by omega
 obtain ⟨s1, hs1⟩ : ∃ z, bn - bp = z := ⟨_, rfl⟩
 obtain ⟨s2, hs2⟩ : ∃ z, s1 * 30103 = z := ⟨_, rfl⟩
 have hs3b := tdiv_bound4 s2 (by omega) (by omega)
 obtain ⟨x0, hx0⟩ : ∃ z, s2.tdiv 100000 = z := ⟨_, rfl⟩
 rw [hx0] at hs3b
 have W1 := wrp (x := bn - bp) (y := s1) (by omega)
 have W2 := wrp (x := s1 * 30103) (y := s2) (by omega)
 have W3 := wrp (x := x0) (y := x0) (by omega)
 have W4 := wrp (x := -e) (y := ne) (by omega)
 have HX0 := Aside0.mk (show -400 ≤ x0 ∧ x0 ≤ 400 by omega)
 have HDB := Aside0.mk (show -335 ≤ D ∧ D ≤ 342 by omega)
 have HDD := Aside0.mk hD
 have HRch := Aside0.mk (fun (w : World) (v u : Value) (h : Nm w v N) (g : Nm w u P) (x : Int) (k1 : -400 ≤ x) (k2 : x ≤ 400) => (hsame x) ▸ r4_ge w (B := B) (by omega) h g hNB hPB x (by omega) (by omega))
 have HNear := Aside0.mk (fun (w : World) (v u : Value) (h : Nm w v N) (g : Nm w u P) => hnear ▸ r4_scaled w (B := B) (by omega) h g hNB hPB hP0 (D - n) (by omega) (by omega))
 rw [show -(D - n) = n - D by omega] at HNear
 have HND := wrp (x := n - D) (y := n - D) (by omega)
 obtain ⟨L, hL⟩ : ∃ z, (Num.wordsN M).length = z := ⟨_, rfl⟩
 have hL0 : 0 < L := by
  rw [← hL]
  rcases Nat.eq_zero_or_pos (Num.wordsN M).length with z | z
  ·exfalso
   have : M = 0 := by rw [← Num.wordsN_val M, List.eq_nil_of_length_eq_zero z]; rfl
   omega
  ·exact z
 have HL := Aside0.mk hL
 have g1 : ((L : Int) == 0) = false := by rw [beq_eq_false_iff_ne]; omega
 have g2 : ¬ (L : Int) = 0 := by omega
 have g3 : ¬ L = 0 := by omega
 have d1 := decide_eq_false (show ¬ n < 1 by omega)
 have d2 := decide_eq_false (show ¬ 40 < n by omega)
 have HNN := Aside0.mk (show 1 ≤ n ∧ n ≤ 40 by omega)
 obtain ⟨T, hT⟩ : ∃ z, Num.textN (nearN M e (D - n)) = z := ⟨_, rfl⟩
 have hTT : (⟨(Num.textN (nearN M e (D - n))).toArray⟩ : ByteArray) = bs T := by rw [hT]; rfl
 rw [hTT] at HNear
 unfold repT repX
 rw [hT]
 obtain ⟨t, ht⟩ : ∃ z, bs T = z := ⟨_, rfl⟩
 rw [ht] at HNear
 have htl : T.length = t.size := by rw [← ht, bs_size]
 have htk : bs (T.take n.toNat) = if n < T.length then t.extract 0 n.toNat else t := by
  split
  ·rw [← ht, bs_to]
  ·rw [← ht, List.take_of_length_le (by omega)]
 rw [htk, htl]
 obtain ⟨u, hu⟩ : ∃ z : ByteArray, (if n < (t.size : Nat) then t.extract 0 n.toNat else t) = z := ⟨_, rfl⟩
 obtain ⟨x5, hx5⟩ : ∃ z : Int, (if n < (t.size : Nat) then D + 1 else D) = z := ⟨_, rfl⟩
 rw [hu, hx5]
 have HU := Aside0.mk hu
 have HXX := Aside0.mk hx5
 have HN2 := Aside0.mk (show 0 ≤ n ∧ n ≤ 40 by omega)
 have HE := Aside0.mk (show (0 < e ∧ P = 1) ∨ (e ≤ 0 ∧ 0 ≤ ne ∧ N = M) from by
  rcases Int.lt_or_le 0 e with c | c
  ·exact .inl ⟨c, by rw [← hP, show ne.toNat = 0 by omega]⟩
  ·exact .inr ⟨c, by omega, by rw [← hN, show e.toNat = 0 by omega, Nat.pow_zero, Nat.mul_one]⟩)
 clear hu hx5 htk htl ht hT hTT hL hL0 hb0 hbN hbP fM hM hz hD he1 he2 hs3b hD1 hD2 h0 h1 ha hf haa hneg hMM hee hbn hbp hs1 hs2 hne hB hN hP hP0 hN0 hNB hPB fN fP hsame hnear
 obtain ⟨v1, v2⟩ := W1.out
 obtain ⟨v3, v4⟩ := W2.out
 obtain ⟨v5, v6⟩ := W3.out
 obtain ⟨v7, v8⟩ := W4.out
 clear W1 W2 W3 W4
 go_enter Tryz.func14, Tryz.ntmps14
 go_upto_region 1 with (fail)
 obtain ⟨g, hg⟩ : ∃ g, w.heap.size = g := ⟨_, rfl⟩
 generalize hW : w.alloc _ = W1
 have BK := Aside0.mk (show W1.heap[g]? = some (.cells #[.string ⟨#[]⟩, .int .i64 0, .bool false] 28 (0, 0)) by rw [← hW, ← hg]; exact blk_new _ _)
 have HB := Aside0.mk (show Below w.heap.size w W1 by rw [← hW]; exact below_alloc (Below.refl _ _) _)
 have GE := Aside0.mk (show w.heap.size ≤ g by omega)
 clear hW
 rw [hg]
 clear hg
 go_upto_if 50 with (first | (go_at_call 41; (with_reducible refine (HS.out _).mono ?_); rintro e w' ⟨v, rfl, hv, hb⟩; obtain ⟨A, c, hva, -, -, -⟩ := hv.open; rw [HL.out] at hva; subst hva; have HV := Aside0.mk hv; clear hv; replace HB := bt_ HB hb; replace BK := Aside0.mk (blk_below BK.out hb); clear hb) | (go_at_call 42; (with_reducible refine (HO.out _).mono ?_); rintro e w' ⟨v1, rfl, hr, hb⟩; have HP := Aside0.mk hr; clear hr; replace HV := Aside0.mk (HV.out.below hb); replace HB := bt_ HB hb; replace BK := Aside0.mk (blk_below BK.out hb); clear hb))
 go_cut [12, 13] (fun v12 v13 wr => Aside0 (Nm wr v12 N) ∧ Aside0 (Nm wr v13 P) ∧ Aside0 (Below w.heap.size w wr) ∧ Aside0 (wr.heap[g]? = some (.cells #[.string ⟨#[]⟩, .int .i64 0, .bool false] 28 (0, 0))))
 case first =>
  rcases HE.out with ⟨c1, hP1⟩ | ⟨c1, c2, hN1⟩
  ·have c3 := decide_eq_true c1
   rw [← hP1] at HP
   have SN1 := Aside0.mk (fun w v h => SN.out w v h (by omega))
   clear hP1
   go_wp2_with (go_at_call 43; (with_reducible refine (SN1.out _ _ HV.out).mono ?_); rintro e w' ⟨r, rfl, hr, hb⟩; have HN := Aside0.mk hr; clear hr; replace HP := Aside0.mk (HP.out.below hb); replace HB := bt_ HB hb; replace BK := Aside0.mk (blk_below BK.out hb); clear hb)
   go_meet
   case rel => exact ⟨HN, HP, HB, BK⟩
  ·have c4 : ¬ 0 < e := by omega
   have c3 := decide_eq_false c4
   rw [← hN1] at HV
   have SP1 := Aside0.mk (fun w v h => SP.out w v h c2)
   clear c1 c2 hN1
   go_wp2_with (go_at_call 43; (with_reducible refine (SP1.out _ _ HP.out).mono ?_); rintro e w' ⟨r, rfl, hr, hb⟩; have HN := Aside0.mk hr; clear hr; replace HV := Aside0.mk (HV.out.below hb); replace HB := bt_ HB hb; replace BK := Aside0.mk (blk_below BK.out hb); clear hb)
   go_meet
   case rel => exact ⟨HV, HN, HB, BK⟩
 case rest =>
  clear HV HP HB BK
  obtain ⟨HV, HP, HB, BK⟩ := hcut
  go_wp2_with (first | (go_at_call 44; (with_reducible refine (BN.out _ _ HV.out).mono ?_); rintro e w'' ⟨rfl, hb⟩; replace HV := Aside0.mk (HV.out.below hb); replace HP := Aside0.mk (HP.out.below hb); replace HB := bt_ HB hb; replace BK := Aside0.mk (blk_below BK.out hb); clear hb) | (go_at_call 44; (with_reducible refine (BP.out _ _ HP.out).mono ?_); rintro e w'' ⟨rfl, hb⟩; replace HV := Aside0.mk (HV.out.below hb); replace HP := Aside0.mk (HP.out.below hb); replace HB := bt_ HB hb; replace BK := Aside0.mk (blk_below BK.out hb); clear hb))
  clear v1 v2 v3 v4 v5 v6 v7 v8 hx0 HS BN BP
  go_loopg [14] (D - x0).toNat (fun kq v14 wr => ∃ x : Int, v14 = .int .i64 x ∧ Aside0 (-400 ≤ x ∧ x ≤ 400 ∧ -400 ≤ x ∧ (D - x).toNat = kq) ∧ Aside0 (Nm wr u12 N) ∧ Aside0 (Nm wr u13 P) ∧ Aside0 (Below w.heap.size w wr) ∧ Aside0 (wr.heap[g]? = some (.cells #[.string ⟨#[]⟩, .int .i64 0, .bool false] 28 (0, 0))))
  case atStart => exact ⟨x0, rfl, ⟨by have := HX0.out; omega⟩, HV, HP, HB, BK⟩
  case round =>
   clear HV HP HB BK
   obtain ⟨x, rfl, HQ, HV, HP, HB, BK⟩ := hrel
   have C1 := Aside0.mk (fun wq (h : Nm wq u12 N) (h2 : Nm wq u13 P) => HRch.out wq _ _ h h2 x (by have := HQ.out; omega) (by have := HQ.out; omega))
   cases hx : rch M e x with
   | true =>
    have hlt : x < D := HDD.out.lt hx
    obtain ⟨j, rfl⟩ : ∃ j, gk = j + 1 := ⟨gk - 1, by have := HQ.out; omega⟩
    have HQ2 := Aside0.mk (show -400 ≤ x + 1 ∧ x + 1 ≤ 400 ∧ -400 ≤ x + 1 ∧ (D - (x + 1)).toNat = j by have := HQ.out; have := HDB.out; omega)
    obtain ⟨y1, y2⟩ := (wrp (x := x + 1) (y := x + 1) (by have := HQ2.out; omega)).out
    rw [hx] at C1
    clear hx hlt
    go_wp2_with (go_at_call 45; (with_reducible refine (C1.out _ HV.out HP.out).mono ?_); rintro q w5 ⟨rfl, hb⟩; replace HV := Aside0.mk (HV.out.below hb); replace HP := Aside0.mk (HP.out.below hb); replace HB := bt_ HB hb; replace BK := Aside0.mk (blk_below BK.out hb); clear hb)
    go_roundg j
    case measure => omega
    case rel => exact ⟨x + 1, by first | rfl | (rw [y1]) | (rw [y2]), HQ2, HV, HP, HB, BK⟩
   | false =>
    have hge : D ≤ x := HDD.out.ge hx
    have HG := Aside0.mk (show -400 ≤ x ∧ x ≤ 400 ∧ D ≤ x by have := HQ.out; omega)
    rw [hx] at C1
    clear hx hge
    go_wp2_with (go_at_call 45; (with_reducible refine (C1.out _ HV.out HP.out).mono ?_); rintro q w5 ⟨rfl, hb⟩; replace HV := Aside0.mk (HV.out.below hb); replace HP := Aside0.mk (HP.out.below hb); replace HB := bt_ HB hb; replace BK := Aside0.mk (blk_below BK.out hb); clear hb)
    go_loopg [14] (x - D).toNat (fun kq v14 wr => ∃ x : Int, v14 = .int .i64 x ∧ Aside0 (-400 ≤ x ∧ x ≤ 400 ∧ D ≤ x ∧ (x - D).toNat = kq) ∧ Aside0 (Nm wr u12 N) ∧ Aside0 (Nm wr u13 P) ∧ Aside0 (Below w.heap.size w wr) ∧ Aside0 (wr.heap[g]? = some (.cells #[.string ⟨#[]⟩, .int .i64 0, .bool false] 28 (0, 0))))
    case atStart => exact ⟨x, rfl, ⟨by have := HG.out; omega⟩, HV, HP, HB, BK⟩
    case round =>
     clear HV HP HB BK HQ HG C1
     obtain ⟨x2, rfl, HQ, HV, HP, HB, BK⟩ := hrel
     have C2 := Aside0.mk (fun wq (h : Nm wq u12 N) (h2 : Nm wq u13 P) => HRch.out wq _ _ h h2 (x2 - 1) (by have := HQ.out; have := HDB.out; omega) (by have := HQ.out; omega))
     obtain ⟨x3, hx3⟩ : ∃ z, x2 - 1 = z := ⟨_, rfl⟩
     obtain ⟨y1, y2⟩ := (wrp (x := x2 - 1) (y := x3) (by have := HQ.out; omega)).out
     rw [hx3] at C2
     cases hx : rch M e x3 with
     | false =>
      have hge : D ≤ x3 := HDD.out.ge hx
      have HX3 := Aside0.mk hx3
      clear hx3 y1 y2
      obtain ⟨j, rfl⟩ : ∃ j, gk = j + 1 := ⟨gk - 1, by have := HQ.out; have := HX3.out; omega⟩
      have HQ2 := Aside0.mk (show -400 ≤ x3 ∧ x3 ≤ 400 ∧ D ≤ x3 ∧ (x3 - D).toNat = j by have := HQ.out; have := HDB.out; have := HX3.out; omega)
      obtain ⟨y1, y2⟩ := (wrp (x := x2 - 1) (y := x3) (by have := HQ.out; have := HX3.out; omega)).out
      rw [hx] at C2
      clear hx hge
      go_wp2_with (go_at_call 45; (with_reducible refine (C2.out _ HV.out HP.out).mono ?_); rintro q w5 ⟨rfl, hb⟩; replace HV := Aside0.mk (HV.out.below hb); replace HP := Aside0.mk (HP.out.below hb); replace HB := bt_ HB hb; replace BK := Aside0.mk (blk_below BK.out hb); clear hb)
      go_roundg j
      case measure => omega
      case rel => exact ⟨x3, by first | rfl | (rw [y1]) | (rw [y2]), HQ2, HV, HP, HB, BK⟩
     | true =>
      have hlt : x3 < D := HDD.out.lt hx
      have hx2 : x2 = D := by have := HQ.out; clear y1 y2; omega
      rw [hx] at C2
      subst hx2
      have hx4 := Aside0.mk hx3
      clear hx hlt hx3
      obtain ⟨m1, m2⟩ := HND.out
      by_cases hn : n < (t.size : Nat)
      ·have e1 := decide_eq_true hn
       have e2 : (0 : Int) ≤ n := HN2.out.1
       have e3 : n ≤ (t.size : Nat) := Int.le_of_lt hn
       have hu := HU.out
       have hx5 := HXX.out
       rw [if_pos hn] at hu hx5
       obtain ⟨z1, z2⟩ := (wrp (x := x2 + 1) (y := x5) ⟨hx5, by have := HDB.out; clear m1 m2 y1 y2; omega⟩).out
       clear hn hx5
       go_wp2_with (first | (go_at_call 45; (with_reducible refine (C2.out _ HV.out HP.out).mono ?_); rintro q w5 ⟨rfl, hb⟩; replace HV := Aside0.mk (HV.out.below hb); replace HP := Aside0.mk (HP.out.below hb); replace HB := bt_ HB hb; replace BK := Aside0.mk (blk_below BK.out hb); clear hb) | (go_at_call 46; (with_reducible refine (HNear.out _ _ _ HV.out HP.out).mono ?_); rintro q w6 ⟨rfl, hb⟩; replace HB := bt_ HB hb; replace BK := Aside0.mk (blk_below BK.out hb); have z0 := (blk_cell BK.out 0).trans (show _ = some (Value.string ⟨#[]⟩) from rfl); have z1 := (blk_cell BK.out 1).trans (show _ = some (Value.int .i64 0) from rfl); have z2 := (blk_cell BK.out 2).trans (show _ = some (Value.bool false) from rfl); have f0 := blk_frozen BK.out 0; have f1 := blk_frozen BK.out 1; have f2 := blk_frozen BK.out 2; clear hb))
       refine bodyPost_ret (res_row_tmp rfl _ _ g 28 #[.string u, .int .i64 x5, .bool neg] (0, 0) _ rfl (by refine blk_put (cs := #[.string u, .int .i64 x5, .bool false]) ?_ 2 _ rfl; refine blk_put (cs := #[.string u, .int .i64 0, .bool false]) ?_ 1 _ rfl; refine blk_put (cs := #[.string ⟨#[]⟩, .int .i64 0, .bool false]) ?_ 0 _ rfl; exact BK.out) Tryz.underlying28 rfl (by kernel_rfl)) rfl ?_
       exact ⟨rfl, below_set (below_set (below_set HB.out GE.out) GE.out) GE.out⟩
      ·have e1 := decide_eq_false hn
       have hu := HU.out
       have hx5 := HXX.out
       rw [if_neg hn] at hu hx5
       subst hu hx5
       clear hn
       go_wp2_with (first | (go_at_call 45; (with_reducible refine (C2.out _ HV.out HP.out).mono ?_); rintro q w5 ⟨rfl, hb⟩; replace HV := Aside0.mk (HV.out.below hb); replace HP := Aside0.mk (HP.out.below hb); replace HB := bt_ HB hb; replace BK := Aside0.mk (blk_below BK.out hb); clear hb) | (go_at_call 46; (with_reducible refine (HNear.out _ _ _ HV.out HP.out).mono ?_); rintro q w6 ⟨rfl, hb⟩; replace HB := bt_ HB hb; replace BK := Aside0.mk (blk_below BK.out hb); have z0 := (blk_cell BK.out 0).trans (show _ = some (Value.string ⟨#[]⟩) from rfl); have z1 := (blk_cell BK.out 1).trans (show _ = some (Value.int .i64 0) from rfl); have z2 := (blk_cell BK.out 2).trans (show _ = some (Value.bool false) from rfl); have f0 := blk_frozen BK.out 0; have f1 := blk_frozen BK.out 1; have f2 := blk_frozen BK.out 2; clear hb))
       refine bodyPost_ret (res_row_tmp rfl _ _ g 28 #[.string t, .int .i64 x2, .bool neg] (0, 0) _ rfl (by refine blk_put (cs := #[.string t, .int .i64 x2, .bool false]) ?_ 2 _ rfl; refine blk_put (cs := #[.string t, .int .i64 0, .bool false]) ?_ 1 _ rfl; refine blk_put (cs := #[.string ⟨#[]⟩, .int .i64 0, .bool false]) ?_ 0 _ rfl; exact BK.out) Tryz.underlying28 rfl (by kernel_rfl)) rfl ?_
       exact ⟨rfl, below_set (below_set (below_set HB.out GE.out) GE.out) GE.out⟩
theorem r4_Rep (w : World) (a : Nat) (ha : a < 18446744073709551616) (hf : ffin a = true) (n : Int) (h0 : 1 ≤ n) (h1 : n ≤ 40) : Calls Tryz.prog 14 #[.int .u64 (a : Int), .int .i64 n] w fun e w' => e = .returned (.tuple #[.agg #[.string (bs (repText a n)), .int .i64 (repExp a n), .bool (fneg a)], .int .i64 0]) ∧ Below w.heap.size w w' := by
 unfold repText repExp
 by_cases hz : fmant a = 0
 ·rw [if_pos hz, if_pos hz]
  exact r4_Rep_zero w a ha hf hz n h0 h1
 ·rw [if_neg hz, if_neg hz]
  exact r4_Rep_main w a ha hf (Nat.pos_of_ne_zero hz) n h0 h1 _ (rep_dex hf hz)
end Go.Proofs.YtdoeigngpemcgaaGreatDoor.Dec
namespace Go.Proofs.YtdoeigngpemcgaaGreatDoor.Dec
open Go.RowKit Go.Flt Go.Read Go.Proofs.YtdoeigngpemcgaaGreatDoor.PDec Go.Proofs.YtdoeigngpemcgaaGreatDoor.Pure Go.Proofs.YtdoeigngpemcgaaGreatDoorW.PrintWords Go.Proofs.YtdoeigngpemcgaaGreatDoorW.PrintLast Go.Proofs.YtdoeigngpemcgaaGreatDoorW.PrintMore
theorem both_Rep (a : Nat) (ha : a < 18446744073709551616) (n : Int) : ∃ t x neg E,
  (∀ w, Calls Tryz.prog 13 #[.int .u64 (a : Int), .int .i64 n] w fun e w' => e = .returned (.tuple #[.agg #[.string t, .int .i64 x, .bool neg], .int .i64 E]) ∧ Below w.heap.size w w') ∧
  (∀ w, Calls Tryz.prog 14 #[.int .u64 (a : Int), .int .i64 n] w fun e w' => e = .returned (.tuple #[.agg #[.string t, .int .i64 x, .bool neg], .int .i64 E]) ∧ Below w.heap.size w w') := by
 by_cases h : n < 1 ∨ 40 < n ∨ ffin a = false
 ·exact ⟨_, _, _, _, fun w => d_Rep_bad w a ha n h, fun w => r4_Rep_bad w a ha n h⟩
 ·have hf : ffin a = true := by
   cases c : ffin a with
   | true => rfl
   | false => exact absurd (.inr (.inr c)) h
  exact ⟨_, _, _, _, fun w => d_Rep w a ha hf n (by omega) (by omega), fun w => r4_Rep w a ha hf n (by omega) (by omega)⟩
set_option maxRecDepth 100000 in
theorem digits_law (w : World) (a : Nat) (ha : a < 18446744073709551616) (n : Int) :
  Calls Tryz.prog 4 #[.int .u64 (a : Int), .int .i64 n] w fun e w' => e = .returned (.bool true) ∧ Below w.heap.size w w' := by
 obtain ⟨t, x, neg, E, H1, H2⟩ := both_Rep a ha n
 have HR1 := Aside0.mk H1
 have HR2 := Aside0.mk H2
 have HA := Aside0.mk (fun w => awake_any w)
 have HB := Aside0.mk (Below.refl w.heap.size w)
 obtain ⟨aa, haa⟩ : ∃ z : Int, (a : Int) = z := ⟨_, rfl⟩
 rw [haa] at HR1 HR2 ⊢
 clear haa ha H1 H2
 go_enter Tryz.func4, Tryz.ntmps4
 go_upto_region 2 with (go_at_call 13; (with_reducible refine (HR1.out _).mono ?_); rintro q w5 ⟨rfl, hb⟩; replace HB := bt_ HB hb; clear hb)
 obtain ⟨g, hg⟩ : ∃ g, w5.heap.size = g := ⟨_, rfl⟩
 generalize hW : w5.alloc (Obj.cells #[Value.string t, Value.int .i64 x, Value.bool neg] 28) = W1
 have BK := Aside0.mk (show W1.heap[g]? = some (.cells #[.string t, .int .i64 x, .bool neg] 28 (0, 0)) by rw [← hW, ← hg]; exact blk_new _ _)
 replace HB := Aside0.mk (show Below w.heap.size w W1 by rw [← hW]; exact below_alloc HB.out _)
 clear hW
 rw [hg]
 clear hg
 go_upto_region 3 with (go_at_call 14; (with_reducible refine (HR2.out _).mono ?_); rintro q w6 ⟨rfl, hb⟩; replace HB := bt_ HB hb; replace BK := Aside0.mk (blk_below BK.out hb); clear hb)
 obtain ⟨k, hk⟩ : ∃ g, w6.heap.size = g := ⟨_, rfl⟩
 generalize hW : w6.alloc (Obj.cells #[Value.string t, Value.int .i64 x, Value.bool neg] 28) = W2
 have CK := Aside0.mk (show W2.heap[k]? = some (.cells #[.string t, .int .i64 x, .bool neg] 28 (0, 0)) by rw [← hW, ← hk]; exact blk_new _ _)
 replace HB := Aside0.mk (show Below w.heap.size w W2 by rw [← hW]; exact below_alloc HB.out _)
 replace BK := Aside0.mk (show W2.heap[g]? = some (.cells #[.string t, .int .i64 x, .bool neg] 28 (0, 0)) by rw [← hW]; exact blk_below BK.out (below_alloc (Below.refl _ _) _))
 clear hW
 rw [hk]
 clear hk
 have z0 := (blk_cell BK.out 0).trans (show _ = some (Value.string t) from rfl)
 have z1 := (blk_cell BK.out 1).trans (show _ = some (Value.int .i64 x) from rfl)
 have z2 := (blk_cell BK.out 2).trans (show _ = some (Value.bool neg) from rfl)
 have y0 := (blk_cell CK.out 0).trans (show _ = some (Value.string t) from rfl)
 have y1 := (blk_cell CK.out 1).trans (show _ = some (Value.int .i64 x) from rfl)
 have y2 := (blk_cell CK.out 2).trans (show _ = some (Value.bool neg) from rfl)
 go_wp2_with (go_at_call 12; (with_reducible refine (HA.out _).mono ?_); rintro q w9 ⟨rfl, hb⟩; replace HB := bt_ HB hb; clear hb)
 go_ret
 exact ⟨rfl, HB.out⟩
end Go.Proofs.YtdoeigngpemcgaaGreatDoor.Dec
namespace Go.Proofs.YtdoeigngpemcgaaGreatDoor.decimalDigits
open Go.ChangeShapes Go.WideShapes Go.ChangeAt Go.RowKit Go.Proofs.YtdoeigngpemcgaaGreatDoorW.PrintWords
open Go.ChangeMaps (open_string shut_string)
theorem own : ownKnob Tryz.prog.godebug = none := by kernel_rfl
theorem wf_u64 {a : Int} (h : (Lit.int .u64 a).wf = true) : 0 ≤ a ∧ a ≤ 18446744073709551615 := by
 unfold Lit.wf at h
 rw [Bool.and_eq_true, decide_eq_true_iff, decide_eq_true_iff] at h
 exact h
set_option maxRecDepth 100000 in
theorem lifted (os : Os) (started : os.Started) (H : Type) (enc : TypeId × Value → H) :
  ReturnsInHanded {} Tryz.checked os 4 .any (fun w args => (Rows.decimalDigitsSpec.pre enc Tryz.prog Tryz.f4 Rows.decimalDigitsRow.domain false w args ∧ laidMetH Tryz.prog Rows.decimalDigitsRow.laid w) ∧ sizedMet enc Tryz.prog Tryz.f4 (OpenSpec.ofChange Rows.decimalDigitsSpec) false w args) (Rows.decimalDigitsSpec.post enc Tryz.prog Tryz.f4 false true false false) := by
 refine returnsInHanded_of_change_and (C := Tryz.checked) (X := fun w _ => laidMetH Tryz.prog Rows.decimalDigitsRow.laid w) (fun _ _ _ hh h => h.of_heap hh) own started (by kernel_rfl) Tryz.func4
  (ChangeSpec.witness_shaped (enc := enc) (C := Tryz.checked) (os := os) (X := fun w _ => laidMetH Tryz.prog Rows.decimalDigitsRow.laid w) false (World.laidAll Tryz.prog os Rows.decimalDigitsRow.laid) #[.int .u64 0, .int .i64 0] 8 (World.laidAll_os _ _ _)
   (World.shaped_of_ZipB (by kernel_rfl) (by kernel_rfl)) (by kernel_rfl) (by kernel_rfl) (by kernel_rfl)
   (by rw [MakeChecks.laidMetH_plain _ _ _ (by kernel_rfl)]; exact laidMet_laidAll _ (by kernel_rfl) (by kernel_rfl))) ?_
 intro W base args ds gs before hval0 hW hcnd hsz0 hlaid _
 have hsz : (DataW.weightsEach Tryz.prog (Tryz.f4.params.toList ++ Rows.decimalDigitsSpec.plain.varTypes Tryz.prog) (ds ++ gs)).all (· ≤ reachBytes) = true := hsz0
 have hval : ∀ (j : Nat) t v, Tryz.f4.params[j]? = some t → args[j]? = some v → Value.okWide Tryz.prog W .any base t v := hval0
 have hW' := hW
 obtain ⟨p, q, hA0, hV, rfl, hfz, hnd⟩ := hW
 have hA : DataW.TrodAll enc Tryz.prog W 0 (fun _ => true) true Tryz.f4.params.toList args.toList ds p := hA0
 rw [Tryz.params4] at hA hval hsz
 obtain ⟨v0, vs0, d0, ds0, p0, q0, hargs, rfl, rfl, h0, r0⟩ := trodAll_cons hA
 obtain ⟨v1, vs1, d1, ds1, p1, q1, rfl, rfl, rfl, h1, r1⟩ := trodAll_cons r0
 obtain ⟨rfl, rfl, rfl⟩ := trodAll_nil r1
 obtain rfl : args = #[v0, v1] := by cases args; simp_all
 obtain ⟨rfl, rfl⟩ := trodVars_none hV
 obtain ⟨a0, rfl, rfl, rfl, w0⟩ := open_int Tryz.underlying22 (hval 0 22 v0 rfl rfl) h0
 obtain ⟨a1, rfl, rfl, rfl, w1⟩ := open_int Tryz.underlying3 (hval 1 3 v1 rfl rfl) h1
 have b0 := wf_u64 w0
 obtain ⟨n0, rfl⟩ : ∃ n : Nat, a0 = (n : Int) := ⟨a0.toNat, by omega⟩
 clear hA0 hval0 hsz0 hsz
 refine (Dec.digits_law W n0 (by omega) a1).mono fun e W' ⟨he, bel⟩ => ?_
 subst he
 exact ⟨_, rfl, _, _, _, [], _, [], hW', trodAll_mk1 (shut_bool Tryz.underlying4 _), (trodAll_cons_mk (shut_int Tryz.underlying22 w0) (trodAll_cons_mk (shut_int Tryz.underlying3 w1) trodAll_mk0)), rfl, bel.frame _, fun h => by cases h⟩
theorem over : Rows.decimalDigitsRow.holds Tryz.pinned (OpenSpec.ofChange Rows.decimalDigitsSpec) :=
 OpenClaim.holds_of_wide 4 Tryz.f4 rfl rfl rfl rfl rfl rfl rfl ⟨rfl, rfl, rfl, rfl, rfl⟩ rfl rfl rfl rfl rfl (by kernel_rfl) Tryz.func4 (by kernel_rfl)
  (of_decide_eq_true (by kernel_rfl)) (by unfold Func.isWrapper; first | (rw [if_pos (by decide +kernel)]; kernel_rfl) | (rw [if_neg (by decide +kernel)]; exact ⟨rfl, rfl⟩))
  (fun os started H enc _ => lifted os started H enc)
theorem proved : Rows.DecimalDigitsSaid := over
#print axioms proved
end Go.Proofs.YtdoeigngpemcgaaGreatDoor.decimalDigits
namespace Go.Proofs.YtdoeigngpemcgaaGreatDoor
/-- The tied card of the row. -/
theorem decimalDigits_card : Rows.DecimalDigitsCardSaid :=
 Claim7.holds_tied_plain_at .later [] [.data, .data, .data, .data, .sentinel, .sentinel, .pinned] true (true, "c2a87cd1fda44bdbc77c27154221b68171628de75c6da12bbc8fad55874a6f08") true decimalDigits.proved (fun _ h => by cases h) (by kernel_rfl) (fun _ h => by cases h) decimalDigits_row_tie rfl ⟨rfl, rfl⟩ (by kernel_rfl) rfl
  (fun f fn hf hfn => by
   obtain rfl : f = 4 := Option.some.inj ((show Tryz.prog.funcNamed "bobbin/bobbinlaw4.DecimalDigits" = some 4 by kernel_rfl).symm.trans hf) |>.symm
   obtain rfl : fn = Tryz.f4 := (Option.some.inj (Tryz.func4.symm.trans hfn)).symm
   exact ⟨by kernel_rfl, fun j t ht => by
    rw [Tryz.params4] at ht
    have hm : t ∈ [22, 3] := by simpa using Array.mem_of_getElem? ht
    have hall : ([22, 3].all fun u => !Tryz.prog.wantsStandIn u) = true := by kernel_rfl
    exact (show Tryz.prog.wantsStandIn t = false by simpa using List.all_eq_true.1 hall t hm)⟩)
  (by kernel_rfl)
#print axioms decimalDigits_card
end Go.Proofs.YtdoeigngpemcgaaGreatDoor
