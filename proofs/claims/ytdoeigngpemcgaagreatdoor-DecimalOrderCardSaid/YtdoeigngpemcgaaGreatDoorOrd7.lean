/- DecimalOrder answers true at every input that its row admits. This is part 7 of 7: what the session's printing program wrote for the functions reached, and the session's own lemmas. -/
import Derived.Below
import Derived.Carry
import Derived.ChangeOld
import Derived.LaidOnce
import Derived.LaidSub
import Derived.Lay
import Derived.Lib.AppendIntMem
import Derived.Lib.LaidTab
import Derived.OpenShut
import Derived.ProofKit
import Derived.SevenTiedAt
import Derived.ShutString
import Derived.SizedLaws
import Derived.WalkKit
import Derived.Test.YtdoeigngpemcgaaGreatDoorCards
import Derived.Test.YtdoeigngpemcgaaGreatDoorOrd6
import Derived.Test.YtdoeigngpemcgaaGreatDoorRows
import Derived.Test.YtdoeigngpemcgaaGreatDoorTie
namespace Go.Read
open Go.Proofs.YtdoeigngpemcgaaGreatDoor
/-- a number's decimal text -/
def decT (n : Int) : List UInt8 := if n < 0 then 45 :: Num.textN n.natAbs else Num.textN n.toNat
end Go.Read
namespace Go.Proofs.YtdoeigngpemcgaaGreatDoor.Dec
open Go.RowKit Go.Read Go.Proofs.YtdoeigngpemcgaaGreatDoor.Pure Go.Proofs.YtdoeigngpemcgaaGreatDoorW.PrintWords Go.Proofs.YtdoeigngpemcgaaGreatDoorW.PrintLast Go.Proofs.YtdoeigngpemcgaaGreatDoorW.PrintMore
set_option linter.unusedVariables false
set_option linter.unusedSimpArgs false
set_option maxHeartbeats 4000000 in
set_option maxRecDepth 100000 in
theorem r_Of (w : World) (v : Nat) (hv : v < 18446744073709551616) : Calls Tryz.prog 42 #[.int .u64 (v : Int)] w fun e w' => ∃ r, e = .returned r ∧ Nm w' r v ∧ Below w.heap.size w w' := by
 obtain ⟨m, hm⟩ : ∃ z : Int, (v : Int) = z := ⟨_, rfl⟩
 obtain ⟨lo, hlo⟩ : ∃ z : Int, m % 4294967296 = z := ⟨_, rfl⟩
 obtain ⟨hi, hhi⟩ : ∃ z : Int, m / 4294967296 = z := ⟨_, rfl⟩
 have hhi2 : hi % 4294967296 = hi := by omega
 have HNorm : Aside0 (∀ w x, Kd.V (Kd.int .u32) 35 w 0 (fun _ => True) x [lo, hi] → Calls Tryz.prog 99 #[x] w fun e w' => ∃ r, e = .returned r ∧ Nm w' r v ∧ Below w.heap.size w w') := ⟨fun w x hx => by
  obtain ⟨A, c, rfl⟩ := Kd.V_slice hx
  obtain ⟨_, h2, h3⟩ := Kd.V_reads' hx
  have := r_Norm (l := [lo, hi]) h3 h2 (by intro x hx; simp at hx; rcases hx with rfl | rfl <;> omega) (by simp)
  rw [show Num.valN [lo, hi] = v by simp [Num.valN]; omega] at this
  exact this⟩
 have u1 : IntKind.u32.wrap m = lo := by rw [IntKind.wrap_u32]; exact hlo
 have u2 : IntKind.u32.wrap hi = hi := by rw [IntKind.wrap_u32]; exact hhi2
 have HB := Aside0.mk (Below.refl w.heap.size w)
 rw [hm]
 clear hv hm hhi2
 go_enter Tryz.func42, Tryz.ntmps42
 go_wp2_with (go_at_call 99; (refine (HNorm.out _ _ (two_V _ lo hi)).mono ?_); rintro e w2 ⟨r, rfl, hr, hb⟩; have hr' := Aside0.mk hr; have n0_ := Aside0.mk (below_step (below_alloc HB.out _) hb); clear hr HB hb; have HB := n0_; clear n0_)
 go_ret
 exact ⟨_, rfl, hr'.out, HB.out⟩
set_option maxHeartbeats 4000000 in
set_option maxRecDepth 100000 in
theorem r_Decimal (w : World) (n : Int) (h0 : -9223372036854775808 ≤ n) (h1 : n ≤ 9223372036854775807) : Calls Tryz.prog 15 #[.int .i64 n] w fun e w' => e = .returned (.string (bs (decT n))) ∧ Below w.heap.size w w' := by
 unfold decT
 have HB := Aside0.mk (Below.refl w.heap.size w)
 have ft : ∀ a : Nat, a < 18446744073709551616 → Fit a := fun a h => fit_lt (b := 64) h (by omega)
 by_cases h : n < 0
 ·have c1 := decide_eq_true h
  rw [if_pos h]
  obtain ⟨a, ha⟩ : ∃ a : Nat, n.natAbs = a := ⟨_, rfl⟩
  have hab : a < 18446744073709551616 := by omega
  have HO := Aside0.mk (fun w => r_Of w a hab)
  have HX := Aside0.mk (fun (w : World) (v : Value) (h : Nm w v a) => r_Text h (ft a hab))
  rw [ha]
  obtain ⟨x, hx⟩ : ∃ x : Int, (a : Int) = x := ⟨_, rfl⟩
  rw [hx] at HO
  obtain ⟨un, hun⟩ : ∃ z : Int, n % 18446744073709551616 = z := ⟨_, rfl⟩
  have u1 : IntKind.u64.wrap n = un := by rw [IntKind.wrap_u64]; exact hun
  have u2 : IntKind.u64.wrap (-un) = x := by rw [IntKind.wrap_u64]; omega
  obtain ⟨t, ht⟩ : ∃ z : ByteArray, (⟨(Num.textN a).toArray⟩ : ByteArray) = z := ⟨_, rfl⟩
  rw [ht] at HX
  have hcat : ⟨#[45]⟩ ++ t = bs (45 :: Num.textN a) := by rw [← ht]; apply ByteArray.ext; simp [bs]
  have hsz : ¬ 9223372036854775807 < 1 + t.size := by
   have := Pure.textN_len a 4 (by omega)
   rw [← ht]
   show ¬ _ < 1 + (Num.textN a).toArray.size
   rw [List.size_toArray]
   omega
  obtain ⟨u, hu⟩ : ∃ z, bs (45 :: Num.textN a) = z := ⟨_, rfl⟩
  rw [hu] at hcat ⊢
  clear h h0 h1 ha hab hx hun ht hu ft
  go_enter Tryz.func15, Tryz.ntmps15
  go_wp2_with (first | (go_at_call 42; (with_reducible refine (HO.out _).mono ?_); rintro q w' ⟨r, rfl, hr, hb⟩; have hr' := Aside0.mk hr; have n0_ := Aside0.mk (below_step HB.out hb); clear hr HB hb; have HB := n0_; clear n0_) | (go_at_call 47; (with_reducible refine (HX.out _ _ hr'.out).mono ?_); rintro q w' ⟨rfl, hb⟩; have n0_ := Aside0.mk (below_step HB.out hb); clear HB hb; have HB := n0_; clear n0_))
  go_ret
  exact ⟨rfl, HB.out⟩
 ·have c1 := decide_eq_false h
  rw [if_neg h]
  obtain ⟨a, ha⟩ : ∃ a : Nat, n.toNat = a := ⟨_, rfl⟩
  have hab : a < 18446744073709551616 := by omega
  have HO := Aside0.mk (fun w => r_Of w a hab)
  have HX := Aside0.mk (fun (w : World) (v : Value) (h : Nm w v a) => r_Text h (ft a hab))
  rw [ha]
  have hx : (a : Int) = n := by omega
  rw [hx] at HO
  have u1 : IntKind.u64.wrap n = n := by rw [IntKind.wrap_u64]; omega
  obtain ⟨t, ht⟩ : ∃ z : ByteArray, (⟨(Num.textN a).toArray⟩ : ByteArray) = z := ⟨_, rfl⟩
  have ht2 : bs (Num.textN a) = t := ht
  rw [ht] at HX
  rw [ht2]
  clear h h0 h1 ha hab hx ht ht2 ft
  go_enter Tryz.func15, Tryz.ntmps15
  go_wp2_with (first | (go_at_call 42; (with_reducible refine (HO.out _).mono ?_); rintro q w' ⟨r, rfl, hr, hb⟩; have hr' := Aside0.mk hr; have n0_ := Aside0.mk (below_step HB.out hb); clear hr HB hb; have HB := n0_; clear n0_) | (go_at_call 47; (with_reducible refine (HX.out _ _ hr'.out).mono ?_); rintro q w' ⟨rfl, hb⟩; have n0_ := Aside0.mk (below_step HB.out hb); clear HB hb; have HB := n0_; clear n0_))
  go_ret
  exact ⟨rfl, HB.out⟩
end Go.Proofs.YtdoeigngpemcgaaGreatDoor.Dec
set_option linter.unusedVariables false
set_option linter.unusedSimpArgs false
namespace Go.Read
open Go.Flt Go.Proofs.YtdoeigngpemcgaaGreatDoor Go.Proofs.YtdoeigngpemcgaaGreatDoor.Dec
/-- no digit stands first -/
def stop (l : List UInt8) : Prop := ∀ c t, l = c :: t → isd c = false
theorem dg_app {A r : List UInt8} (h : Num.digs A = true) (hr : stop r) : dg (A ++ r) = A ∧ past (A ++ r) = r := by
 induction A with
 | nil =>
  match r, hr with
  | [], _ => exact ⟨rfl, rfl⟩
  | c :: t, hr =>
   have := hr c t rfl
   unfold dg past
   rw [List.nil_append, List.takeWhile_cons, List.dropWhile_cons, this]
   exact ⟨rfl, rfl⟩
 | cons c t ih =>
  have hc : isd c = true := by
   have := Num.digs_mem h c List.mem_cons_self
   unfold isd
   rw [Bool.and_eq_true, decide_eq_true_iff, decide_eq_true_iff]
   exact this
  have ht : Num.digs t = true := by
   unfold Num.digs at *
   rw [List.all_cons, Bool.and_eq_true] at h
   exact h.2
  obtain ⟨h1, h2⟩ := ih ht
  unfold dg past at *
  rw [List.cons_append, List.takeWhile_cons, List.dropWhile_cons, if_pos hc, if_pos hc, h1, h2]
  exact ⟨rfl, rfl⟩
theorem digs_head {c : UInt8} {t : List UInt8} (h : Num.digs (c :: t) = true) : isd c = true := by
 have := Num.digs_mem h c List.mem_cons_self
 unfold isd
 rw [Bool.and_eq_true, decide_eq_true_iff, decide_eq_true_iff]
 exact this
theorem isd_not {c : UInt8} (h : isd c = true) : c ≠ 43 ∧ c ≠ 45 ∧ c ≠ 32 ∧ c ≠ 46 := by
 refine ⟨?_, ?_, ?_, ?_⟩ <;> (rintro rfl; exact absurd h (by decide))
theorem no_sign {l : List UInt8} {c : UInt8} (h : isd c = true) : after [43, 45] (c :: l) = c :: l ∧ minus (c :: l) = false ∧ hasM [43, 45] (c :: l) = false := by
 obtain ⟨h1, h2, _, _⟩ := isd_not h
 have hc : ([43, 45] : List UInt8).contains c = false := by
  simp [List.contains_cons, h1, h2]
 have e : hasM [43, 45] (c :: l) = false := hc
 refine ⟨by unfold after; rw [e]; rfl, ?_, e⟩
 show (c == 45) = false
 simpa using h2
theorem textN_cons (v : Nat) : ∃ c t, Num.textN v = c :: t ∧ isd c = true := by
 match h : Num.textN v, textN_ne v with
 | c :: t, _ =>
  refine ⟨c, t, rfl, ?_⟩
  have := Pure.textN_digs v
  rw [h] at this
  exact digs_head this
theorem past_nil {l : List UInt8} (h : Num.digs l = true) : dg l = l ∧ past l = [] := by
 have := dg_app (r := []) h (fun c t h => by cases h)
 rw [List.append_nil] at this
 exact this
theorem textN_trim_len {a : Nat} (h : a < 100000) : ¬ 5 < (trim0 (Num.textN a)).length := by
 rcases Nat.eq_zero_or_pos a with z | z
 ·subst z; decide
 ·rw [textN_trim (by omega)]
  intro k
  have h1 := (textN_pow (v := a) (by omega)).1
  have h2 : 10 ^ 5 ≤ 10 ^ ((Num.textN a).length - 1) := Nat.pow_le_pow_right (by decide) (by omega)
  omega
/-- an exponent's text is read as it should be -/
theorem read_exp (x : Int) (h0 : -100000 < x) (h1 : x < 100000) : minus (decT x) = decide (x < 0) ∧ expo (minus (decT x)) (dg (after [43, 45] (decT x))) = x ∧ past (after [43, 45] (decT x)) = [] := by
 unfold decT
 by_cases h : x < 0
 ·rw [if_pos h]
  have e1 : minus (45 :: Num.textN x.natAbs) = true := rfl
  have e2 : after [43, 45] (45 :: Num.textN x.natAbs) = Num.textN x.natAbs := rfl
  obtain ⟨p1, p2⟩ := past_nil (Pure.textN_digs x.natAbs)
  rw [e1, e2, p1]
  refine ⟨by rw [decide_eq_true h], ?_, p2⟩
  unfold expo
  rw [if_neg (textN_trim_len (by omega)), decL_trim, Pure.textN_dec]
  show -(x.natAbs : Int) = x
  omega
 ·rw [if_neg h]
  obtain ⟨c, t, hc, hd⟩ := textN_cons x.toNat
  obtain ⟨p1, p2⟩ := past_nil (Pure.textN_digs x.toNat)
  rw [hc] at p1 p2
  obtain ⟨e1, e2, _⟩ := no_sign (l := t) hd
  rw [hc, e1, e2, p1]
  refine ⟨by rw [decide_eq_false h], ?_, p2⟩
  unfold expo
  rw [← hc, if_neg (textN_trim_len (by omega)), decL_trim, Pure.textN_dec]
  show (x.toNat : Int) = x
  omega
/-- a point and digits, or nothing -/
def dot : Option (List UInt8) → List UInt8
 | none => []
 | some b => 46 :: b
/-- the text of digits, a point and an exponent -/
def sci (neg : Bool) (A : List UInt8) (B : Option (List UInt8)) (c : UInt8) (x : Int) : List UInt8 :=
 (if neg then [45] else []) ++ (A ++ (dot B ++ (c :: decT x)))
theorem parse_sci (neg : Bool) (A : List UInt8) (B : Option (List UInt8)) (c : UInt8) (x : Int) (hA : Num.digs A = true) (hA0 : A ≠ []) (hB : Num.digs (B.getD []) = true) (hc : ([69, 101, 68, 100] : List UInt8).contains c = true) (h0 : -100000 < x) (h1 : x < 100000) (hl : (sci neg A B c x).length ≤ 400) :
  parseN (sci neg A B c x) = (sg neg (flt (Num.decL 0 (A ++ B.getD [])) (x - (B.getD []).length)), true) := by
 have hcd : isd c = false := by
  simp [List.contains_cons] at hc
  rcases hc with rfl | rfl | rfl | rfl <;> decide
 have hc46 : c ≠ 46 := by rintro rfl; exact absurd hc (by decide)
 obtain ⟨a, t, rfl⟩ : ∃ a t, A = a :: t := by
  match A, hA0 with
  | a :: t, _ => exact ⟨a, t, rfl⟩
 have ha := digs_head hA
 obtain ⟨r, hr⟩ : ∃ r, dot B ++ (c :: decT x) = r := ⟨_, rfl⟩
 have e1 : q1 (sci neg (a :: t) B c x) = (a :: t) ++ r ∧ minus (sci neg (a :: t) B c x) = neg := by
  unfold sci q1
  rw [hr]
  cases neg
  ·have := no_sign (l := t ++ r) ha
   exact ⟨this.1, this.2.1⟩
  ·exact ⟨rfl, rfl⟩
 have hstop : stop r := by
  intro d s hd
  rw [hd] at hr
  cases B with
  | none =>
   have : c = d := by simpa [dot] using congrArg List.head? hr
   rw [← this]; exact hcd
  | some b =>
   have : (46 : UInt8) = d := by simpa [dot] using congrArg List.head? hr
   rw [← this]; decide
 obtain ⟨e2, e3⟩ := dg_app hA hstop
 have f2 : qA (sci neg (a :: t) B c x) = a :: t := by unfold qA; rw [e1.1]; exact e2
 have f3 : q2 (sci neg (a :: t) B c x) = r := by unfold q2; rw [e1.1]; exact e3
 have g1 : qB (sci neg (a :: t) B c x) = B.getD [] ∧ q3 (sci neg (a :: t) B c x) = c :: decT x := by
  unfold qB q3 qp
  rw [f3]
  cases B with
  | none =>
   have hm : hasM [46] r = false := by
    rw [← hr]
    show ([46] : List UInt8).contains c = false
    simp [List.contains_cons, hc46]
   rw [hm]
   exact ⟨rfl, hr.symm⟩
  | some b =>
   have hrr : r = 46 :: (b ++ (c :: decT x)) := hr.symm
   have hm : hasM [46] r = true := by rw [hrr]; rfl
   have := dg_app (A := b) (r := c :: decT x) hB (fun d s h => by cases h; exact hcd)
   rw [hm, hrr]
   exact this
 have hE : qE (sci neg (a :: t) B c x) = true := by unfold qE; rw [g1.2]; exact hc
 have h4 : q4 (sci neg (a :: t) B c x) = decT x := by
  unfold q4 after
  rw [g1.2, show hasM [69, 101, 68, 100] (c :: decT x) = true from hc]
  rfl
 obtain ⟨x1, x2, x3⟩ := read_exp x h0 h1
 have hx : qx (sci neg (a :: t) B c x) = x := by
  unfold qx qm q5
  rw [hE, Bool.true_or, if_pos rfl, h4]
  exact x2
 have h6 : q6 (sci neg (a :: t) B c x) = [] := by
  unfold q6 q5
  rw [hE, Bool.true_or, if_pos rfl, h4]
  exact x3
 have hall : ¬ (sci neg (a :: t) B c x).all (· == 32) = true := by
  unfold sci
  cases neg
  ·intro h
   have h32 := (isd_not ha).2.2.1
   simp at h
   exact h32 h.1
  ·intro h
   simp at h
 unfold parseN
 rw [if_neg (by omega), if_neg hall, f2, g1.1, if_neg (by simp), if_pos h6, e1.2, hx]
end Go.Read
namespace Go.Flt
open Go.Num
theorem mkN_le (m : Nat) (e : Int) : mkN m e ≤ 9218868437227405312 := by
 unfold mkN
 split <;> omega
theorem fl_le (p q : Nat) : fl p q ≤ 9218868437227405312 := mkN_le _ _
theorem flt_le (m : Nat) (e : Int) : flt m e ≤ 9218868437227405312 := by
 unfold flt
 split
 ·omega
 ·split <;> exact fl_le _ _
theorem flt_mono {a b : Nat} (h : a ≤ b) (e : Int) : flt a e ≤ flt b e := by
 unfold flt
 by_cases h0 : a = 0
 ·rw [if_pos h0]; omega
 ·have hp : ∀ k : Nat, 0 < 10 ^ k := fun k => Nat.pow_pos (by decide)
  have hb0 : ¬ b = 0 := by omega
  rw [if_neg h0, if_neg hb0]
  by_cases c : 0 ≤ e
  ·rw [if_pos c, if_pos c]
   refine fl_mono (by decide) (by decide) ?_
   rw [Nat.mul_one, Nat.mul_one]
   exact Nat.mul_le_mul_right _ h
  ·rw [if_neg c, if_neg c]
   exact fl_mono (hp _) (hp _) (Nat.mul_le_mul_right _ h)
end Go.Flt
namespace Go.Proofs.YtdoeigngpemcgaaGreatDoor.Dec
open Go.RowKit Go.Flt Go.Read Go.Proofs.YtdoeigngpemcgaaGreatDoor.PDec Go.Proofs.YtdoeigngpemcgaaGreatDoor.Pure Go.Proofs.YtdoeigngpemcgaaGreatDoorW.PrintWords Go.Proofs.YtdoeigngpemcgaaGreatDoorW.PrintLast Go.Proofs.YtdoeigngpemcgaaGreatDoorW.PrintMore
set_option linter.unusedVariables false
set_option linter.unusedSimpArgs false
theorem bs_app (a b : List UInt8) : bs a ++ bs b = bs (a ++ b) := by
 apply ByteArray.ext
 simp [bs]
theorem decT_len (n : Int) (h0 : -9223372036854775808 ≤ n) (h1 : n ≤ 9223372036854775807) : (decT n).length ≤ 38 := by
 unfold decT
 split
 ·rw [List.length_cons]
  have := Pure.textN_len n.natAbs 4 (by omega)
  omega
 ·have := Pure.textN_len n.toNat 4 (by omega)
  omega
theorem s_Compare_le (w : World) (a b : Nat) (h : a ≤ b) (hb : b ≤ 9218868437227405312) : Calls Tryz.prog 25 #[.int .u64 (a : Int), .int .u64 (b : Int)] w fun e w' => ∃ c, c ≤ 0 ∧ e = .returned (.tuple #[.int .i64 c, .bool true]) ∧ Drawn0 w w' := by
 have hn : ∀ a : Nat, a ≤ 9218868437227405312 → soft_isNaN.f (a : Int) = some false := fun a h => by
  unfold soft_isNaN.f
  rw [abs_and a (by omega)]
  congr 1
  rw [decide_eq_false_iff_not]
  omega
 have hg : ∀ a : Nat, a ≤ 9218868437227405312 → soft_isNeg.f (a : Int) = some false := fun a h => by
  unfold soft_isNeg.f
  congr 1
  rw [beq_eq_false_iff_ne]
  omega
 have ho : ∀ a : Nat, a ≤ 9218868437227405312 → soft_order.f (a : Int) = some (a : Int) := fun a h => by
  unfold soft_order.f
  rw [hg a h, Option.bind_some, if_neg (by decide), i64_id (by omega) (by omega)]
 have key : soft_Compare.f 1 (a : Int) (b : Int) = some (if a < b then -1 else 0, true) := by
  unfold soft_Compare.f
  rw [hn a (by omega), Option.bind_some, if_neg (by decide), hn b hb, Option.bind_some, soft_Compare.j0, if_neg (by decide), ho a (by omega), Option.bind_some, ho b hb, Option.bind_some]
  by_cases k : a < b
  ·rw [if_pos (by omega), if_pos k]
  ·rw [if_neg (by omega), if_neg (by omega), if_neg k]
 refine (soft_Compare.calls 1 _ _ _ _ w key).mono ?_
 rintro e w' ⟨rfl, hd⟩
 exact ⟨_, by split <;> omega, rfl, hd⟩
theorem sg_false (p : Nat) : sg false p = p := rfl
theorem parse_num_val (n : Nat) (hn : n < 18446744073709551616) (x : Int) (hx : -400 ≤ x) (hx2 : x ≤ 400) : parseN (Num.textN n ++ [69] ++ decT x) = (flt n x, true) := by
 have hl : (sci false (Num.textN n) none 69 x).length ≤ 400 := by
  unfold sci dot
  have := Pure.textN_len n 4 (by omega)
  have := decT_len x (by omega) (by omega)
  simp
  omega
 have e1 : sci false (Num.textN n) none 69 x = Num.textN n ++ [69] ++ decT x := by
  unfold sci dot
  simp
 have h := parse_sci false (Num.textN n) none 69 x (Pure.textN_digs n) (textN_ne n) rfl rfl (by omega) (by omega) hl
 rw [Option.getD_none, List.append_nil, Pure.textN_dec, List.length_nil, Int.natCast_zero, Int.sub_zero, sg_false, e1] at h
 exact h
theorem d_Parse_val (w : World) (l : List UInt8) (f : Nat) (b : Bool) (h : parseN l = (f, b)) : Calls Tryz.prog 10 #[.string (bs l)] w fun e w' => e = .returned (.tuple #[.int .u64 (f : Int), .bool b]) ∧ Below w.heap.size w w' := by
 have k := d_Parse w l
 rw [h] at k
 exact k
theorem parse_num (w : World) (n : Nat) (hn : n < 18446744073709551616) (x : Int) (hx : -400 ≤ x) (hx2 : x ≤ 400) : Calls Tryz.prog 10 #[.string (bs (Num.textN n ++ [69] ++ decT x))] w fun e w' => e = .returned (.tuple #[.int .u64 ((flt n x : Nat) : Int), .bool true]) ∧ Below w.heap.size w w' :=
 d_Parse_val w _ _ _ (parse_num_val n hn x hx hx2)
set_option maxHeartbeats 16000000 in
set_option maxRecDepth 100000 in
theorem order_any (w : World) (n x k : Int) (hn0 : 0 ≤ n) (hn1 : n < 4294967296) (hx0 : -9223372036854775808 ≤ x) (hx1 : x ≤ 9223372036854775807) (hk0 : 0 ≤ k) (hk1 : k < 4294967296) :
  Calls Tryz.prog 9 #[.int .u32 n, .int .i64 x, .int .u32 k] w fun e w' => e = .returned (.bool true) ∧ Below w.heap.size w w' := by
 have HA := Aside0.mk (fun w => awake_any w)
 have HB := Aside0.mk (Below.refl w.heap.size w)
 by_cases h1 : x < -400
 ·have c1 := decide_eq_true h1
  clear hn0 hn1 hx0 hx1 hk0 hk1 h1
  go_enter Tryz.func9, Tryz.ntmps9
  go_wp2_with (go_at_call 12; (with_reducible refine (HA.out _).mono ?_); rintro q w' ⟨rfl, hb⟩; have n0_ := Aside0.mk (below_step HB.out hb); clear HB hb; have HB := n0_; clear n0_)
  go_ret
  exact ⟨rfl, HB.out⟩
 have c1 := decide_eq_false h1
 by_cases h2 : 400 < x
 ·have c2 := decide_eq_true h2
  clear hn0 hn1 hx0 hx1 hk0 hk1 h1 h2
  go_enter Tryz.func9, Tryz.ntmps9
  go_wp2_with (go_at_call 12; (with_reducible refine (HA.out _).mono ?_); rintro q w' ⟨rfl, hb⟩; have n0_ := Aside0.mk (below_step HB.out hb); clear HB hb; have HB := n0_; clear n0_)
  go_ret
  exact ⟨rfl, HB.out⟩
 have c2 := decide_eq_false h2
 by_cases h3 : 1000 < k
 ·have c3 := decide_eq_true h3
  clear hn0 hn1 hx0 hx1 hk0 hk1 h1 h2 h3
  go_enter Tryz.func9, Tryz.ntmps9
  go_wp2_with (go_at_call 12; (with_reducible refine (HA.out _).mono ?_); rintro q w' ⟨rfl, hb⟩; have n0_ := Aside0.mk (below_step HB.out hb); clear HB hb; have HB := n0_; clear n0_)
  go_ret
  exact ⟨rfl, HB.out⟩
 have c3 := decide_eq_false h3
 by_cases h4 : 2147483648 < n
 ·have c4 := decide_eq_true h4
  clear hn0 hn1 hx0 hx1 hk0 hk1 h1 h2 h3 h4
  go_enter Tryz.func9, Tryz.ntmps9
  go_wp2_with (go_at_call 12; (with_reducible refine (HA.out _).mono ?_); rintro q w' ⟨rfl, hb⟩; have n0_ := Aside0.mk (below_step HB.out hb); clear HB hb; have HB := n0_; clear n0_)
  go_ret
  exact ⟨rfl, HB.out⟩
 have c4 := decide_eq_false h4
 have D1 := Aside0.mk (fun w => r_Decimal w n (by omega) (by omega))
 have D2 := Aside0.mk (fun w => r_Decimal w x (by omega) (by omega))
 have D3 := Aside0.mk (fun w => r_Decimal w (n + k) (by omega) (by omega))
 have P1 := Aside0.mk (fun w => parse_num w n.toNat (by omega) x (by omega) (by omega))
 have P2 := Aside0.mk (fun w => parse_num w (n + k).toNat (by omega) x (by omega) (by omega))
 have CC := Aside0.mk (fun w => s_Compare_le w (flt n.toNat x) (flt (n + k).toNat x) (flt_mono (by omega) x) (flt_le _ _))
 have e1 : decT n = Num.textN n.toNat := by unfold decT; rw [if_neg (by omega)]
 have e2 : decT (n + k) = Num.textN (n + k).toNat := by unfold decT; rw [if_neg (by omega)]
 rw [← e1] at P1
 rw [← e2] at P2
 have l1 := decT_len n (by omega) (by omega)
 have l2 := decT_len x (by omega) (by omega)
 have l3 := decT_len (n + k) (by omega) (by omega)
 obtain ⟨z, hz⟩ : ∃ z, n + k = z := ⟨_, rfl⟩
 obtain ⟨f1, hf1⟩ : ∃ z : Int, ((flt n.toNat x : Nat) : Int) = z := ⟨_, rfl⟩
 obtain ⟨f2, hf2⟩ : ∃ z : Int, ((flt (n + k).toNat x : Nat) : Int) = z := ⟨_, rfl⟩
 rw [hf1] at P1
 rw [hf2] at P2
 rw [hf1, hf2] at CC
 rw [hz] at D3 P2 l3
 have w1 : IntKind.i64.wrap n = n := i64w_id (by omega) (by omega)
 have w2 : wrap64 n = n := i64_id (by omega) (by omega)
 have w3 : IntKind.i64.wrap k = k := i64w_id (by omega) (by omega)
 have w4 : wrap64 k = k := i64_id (by omega) (by omega)
 have w5 : IntKind.i64.wrap (n + k) = z := by rw [hz, i64w_id (by omega) (by omega)]
 have w6 : wrap64 (n + k) = z := by rw [hz, i64_id (by omega) (by omega)]
 obtain ⟨s1, hs1⟩ : ∃ s, bs (decT n) = s := ⟨_, rfl⟩
 obtain ⟨s2, hs2⟩ : ∃ s, bs (decT x) = s := ⟨_, rfl⟩
 obtain ⟨s3, hs3⟩ : ∃ s, bs (decT z) = s := ⟨_, rfl⟩
 obtain ⟨t1, ht1⟩ : ∃ s, bs (decT n ++ [69]) = s := ⟨_, rfl⟩
 obtain ⟨t3, ht3⟩ : ∃ s, bs (decT z ++ [69]) = s := ⟨_, rfl⟩
 obtain ⟨u1, hu1⟩ : ∃ s, bs (decT n ++ [69] ++ decT x) = s := ⟨_, rfl⟩
 obtain ⟨u3, hu3⟩ : ∃ s, bs (decT z ++ [69] ++ decT x) = s := ⟨_, rfl⟩
 have k1 : s1 ++ ⟨#[69]⟩ = t1 := by rw [← hs1, ← ht1, ← bs_app]; rfl
 have k2 : t1 ++ s2 = u1 := by rw [← hs2, ← ht1, ← hu1]; exact bs_app _ _
 have k3 : s3 ++ ⟨#[69]⟩ = t3 := by rw [← hs3, ← ht3, ← bs_app]; rfl
 have k4 : t3 ++ s2 = u3 := by rw [← hs2, ← ht3, ← hu3]; exact bs_app _ _
 have z1 : s1.size ≤ 38 := by rw [← hs1, bs_size]; exact l1
 have z2 : s2.size ≤ 38 := by rw [← hs2, bs_size]; exact l2
 have z3 : s3.size ≤ 38 := by rw [← hs3, bs_size]; exact l3
 have z4 : t1.size ≤ 39 := by rw [← ht1, bs_size, List.length_append]; show _ + 1 ≤ 39; omega
 have z5 : t3.size ≤ 39 := by rw [← ht3, bs_size, List.length_append]; show _ + 1 ≤ 39; omega
 have y1 : ¬ 9223372036854775807 < s1.size + 1 := by omega
 have y2 : ¬ 9223372036854775807 < t1.size + s2.size := by omega
 have y3 : ¬ 9223372036854775807 < s3.size + 1 := by omega
 have y4 : ¬ 9223372036854775807 < t3.size + s2.size := by omega
 rw [hs1] at D1
 rw [hs2] at D2
 rw [hs3] at D3
 rw [hu1] at P1
 rw [hu3] at P2
 clear h1 h2 h3 h4 hn0 hn1 hx0 hx1 hk0 hk1 e1 e2 l1 l2 l3 hf1 hf2 hz hs1 hs2 hs3 ht1 ht3 hu1 hu3 z1 z2 z3 z4 z5
 go_enter Tryz.func9, Tryz.ntmps9
 go_wp2_with (first
  | (go_at_call 15; (with_reducible refine (D1.out _).mono ?_); rintro q w' ⟨rfl, hb⟩; have n0_ := Aside0.mk (below_step HB.out hb); clear HB hb; have HB := n0_; clear n0_)
  | (go_at_call 15; (with_reducible refine (D2.out _).mono ?_); rintro q w' ⟨rfl, hb⟩; have n0_ := Aside0.mk (below_step HB.out hb); clear HB hb; have HB := n0_; clear n0_)
  | (go_at_call 15; (with_reducible refine (D3.out _).mono ?_); rintro q w' ⟨rfl, hb⟩; have n0_ := Aside0.mk (below_step HB.out hb); clear HB hb; have HB := n0_; clear n0_)
  | (go_at_call 10; (with_reducible refine (P1.out _).mono ?_); rintro q w' ⟨rfl, hb⟩; have n0_ := Aside0.mk (below_step HB.out hb); clear HB hb; have HB := n0_; clear n0_)
  | (go_at_call 10; (with_reducible refine (P2.out _).mono ?_); rintro q w' ⟨rfl, hb⟩; have n0_ := Aside0.mk (below_step HB.out hb); clear HB hb; have HB := n0_; clear n0_)
  | (go_at_call 25; (with_reducible refine (CC.out _).mono ?_); rintro q w' ⟨c, hc, rfl, ⟨nd, rfl⟩⟩; have d1 := decide_eq_true hc; clear hc)
  | (go_at_call 12; (with_reducible refine (HA.out _).mono ?_); rintro q w' ⟨rfl, hb⟩; have n0_ := Aside0.mk (below_step (by repeat (first | exact HB.out | apply pw_below_drewN)) hb); clear HB hb; have HB := n0_; clear n0_))
 go_ret
 exact ⟨rfl, HB.out⟩
end Go.Proofs.YtdoeigngpemcgaaGreatDoor.Dec
namespace Go.Proofs.YtdoeigngpemcgaaGreatDoor.decimalOrder
open Go.ChangeShapes Go.WideShapes Go.ChangeAt Go.RowKit Go.Proofs.YtdoeigngpemcgaaGreatDoorW.PrintWords
open Go.ChangeMaps (open_string shut_string)
set_option linter.unusedVariables false
set_option linter.unusedSimpArgs false
theorem own : ownKnob Tryz.prog.godebug = none := by kernel_rfl
theorem wf_u32 {a : Int} (h : (Lit.int .u32 a).wf = true) : 0 ≤ a ∧ a ≤ 4294967295 := by
 unfold Lit.wf at h
 rw [Bool.and_eq_true, decide_eq_true_iff, decide_eq_true_iff] at h
 exact h
theorem wf_i64 {a : Int} (h : (Lit.int .i64 a).wf = true) : -9223372036854775808 ≤ a ∧ a ≤ 9223372036854775807 := by
 unfold Lit.wf at h
 rw [Bool.and_eq_true, decide_eq_true_iff, decide_eq_true_iff] at h
 exact h
set_option maxRecDepth 100000 in
theorem lifted (os : Os) (started : os.Started) (H : Type) (enc : TypeId × Value → H) :
  ReturnsInHanded {} Tryz.checked os 9 .any (fun w args => (Rows.decimalOrderSpec.pre enc Tryz.prog Tryz.f9 Rows.decimalOrderRow.domain false w args ∧ laidMetH Tryz.prog Rows.decimalOrderRow.laid w) ∧ sizedMet enc Tryz.prog Tryz.f9 (OpenSpec.ofChange Rows.decimalOrderSpec) false w args) (Rows.decimalOrderSpec.post enc Tryz.prog Tryz.f9 false true false false) := by
 refine returnsInHanded_of_change_and (C := Tryz.checked) (X := fun w _ => laidMetH Tryz.prog Rows.decimalOrderRow.laid w) (fun _ _ _ hh h => h.of_heap hh) own started (by kernel_rfl) Tryz.func9
  (ChangeSpec.witness_shaped (enc := enc) (C := Tryz.checked) (os := os) (X := fun w _ => laidMetH Tryz.prog Rows.decimalOrderRow.laid w) false (World.laidAll Tryz.prog os Rows.decimalOrderRow.laid) #[.int .u32 0, .int .i64 0, .int .u32 0] 8 (World.laidAll_os _ _ _)
   (World.shaped_of_ZipB (by kernel_rfl) (by kernel_rfl)) (by kernel_rfl) (by kernel_rfl) (by kernel_rfl)
   (by rw [MakeChecks.laidMetH_plain _ _ _ (by kernel_rfl)]; exact laidMet_laidAll _ (by kernel_rfl) (by kernel_rfl))) ?_
 intro W base args ds gs before hval0 hW hcnd hsz0 hlaid _
 have hsz : (DataW.weightsEach Tryz.prog (Tryz.f9.params.toList ++ Rows.decimalOrderSpec.plain.varTypes Tryz.prog) (ds ++ gs)).all (· ≤ reachBytes) = true := hsz0
 have hval : ∀ (j : Nat) t v, Tryz.f9.params[j]? = some t → args[j]? = some v → Value.okWide Tryz.prog W .any base t v := hval0
 have hW' := hW
 obtain ⟨p, q, hA0, hV, rfl, hfz, hnd⟩ := hW
 have hA : DataW.TrodAll enc Tryz.prog W 0 (fun _ => true) true Tryz.f9.params.toList args.toList ds p := hA0
 rw [Tryz.params9] at hA hval hsz
 obtain ⟨v0, vs0, d0, ds0, p0, q0, hargs, rfl, rfl, h0, r0⟩ := trodAll_cons hA
 obtain ⟨v1, vs1, d1, ds1, p1, q1, rfl, rfl, rfl, h1, r1⟩ := trodAll_cons r0
 obtain ⟨v2, vs2, d2, ds2, p2, q2, rfl, rfl, rfl, h2, r2⟩ := trodAll_cons r1
 obtain ⟨rfl, rfl, rfl⟩ := trodAll_nil r2
 obtain rfl : args = #[v0, v1, v2] := by cases args; simp_all
 obtain ⟨rfl, rfl⟩ := trodVars_none hV
 obtain ⟨a0, rfl, rfl, rfl, w0⟩ := open_int Tryz.underlying35 (hval 0 35 v0 rfl rfl) h0
 obtain ⟨a1, rfl, rfl, rfl, w1⟩ := open_int Tryz.underlying3 (hval 1 3 v1 rfl rfl) h1
 obtain ⟨a2, rfl, rfl, rfl, w2⟩ := open_int Tryz.underlying35 (hval 2 35 v2 rfl rfl) h2
 have b0 := wf_u32 w0
 have b1 := wf_i64 w1
 have b2 := wf_u32 w2
 clear hA0 hval0 hsz0 hsz
 refine (Dec.order_any W a0 a1 a2 (by omega) (by omega) (by omega) (by omega) (by omega) (by omega)).mono fun e W' ⟨he, bel⟩ => ?_
 subst he
 exact ⟨_, rfl, _, _, _, [], _, [], hW', trodAll_mk1 (shut_bool Tryz.underlying4 _), (trodAll_cons_mk (shut_int Tryz.underlying35 w0) (trodAll_cons_mk (shut_int Tryz.underlying3 w1) (trodAll_cons_mk (shut_int Tryz.underlying35 w2) trodAll_mk0))), rfl, bel.frame _, fun h => by cases h⟩
theorem over : Rows.decimalOrderRow.holds Tryz.pinned (OpenSpec.ofChange Rows.decimalOrderSpec) :=
 OpenClaim.holds_of_wide 9 Tryz.f9 rfl rfl rfl rfl rfl rfl rfl ⟨rfl, rfl, rfl, rfl, rfl⟩ rfl rfl rfl rfl rfl (by kernel_rfl) Tryz.func9 (by kernel_rfl)
  (of_decide_eq_true (by kernel_rfl)) (by unfold Func.isWrapper; first | (rw [if_pos (by decide +kernel)]; kernel_rfl) | (rw [if_neg (by decide +kernel)]; exact ⟨rfl, rfl⟩))
  (fun os started H enc _ => lifted os started H enc)
theorem proved : Rows.DecimalOrderSaid := over
#print axioms proved
end Go.Proofs.YtdoeigngpemcgaaGreatDoor.decimalOrder
namespace Go.Proofs.YtdoeigngpemcgaaGreatDoor
/-- The tied card of the row. -/
theorem decimalOrder_card : Rows.DecimalOrderCardSaid :=
 Claim7.holds_tied_plain_at .later [] [.data, .data, .data, .data, .sentinel, .sentinel, .pinned] true (true, "c2a87cd1fda44bdbc77c27154221b68171628de75c6da12bbc8fad55874a6f08") true decimalOrder.proved (fun _ h => by cases h) (by kernel_rfl) (fun _ h => by cases h) decimalOrder_row_tie rfl ⟨rfl, rfl⟩ (by kernel_rfl) rfl
  (fun f fn hf hfn => by
   obtain rfl : f = 9 := Option.some.inj ((show Tryz.prog.funcNamed "bobbin/bobbinlaw4.DecimalOrder" = some 9 by kernel_rfl).symm.trans hf) |>.symm
   obtain rfl : fn = Tryz.f9 := (Option.some.inj (Tryz.func9.symm.trans hfn)).symm
   exact ⟨by kernel_rfl, fun j t ht => by
    rw [Tryz.params9] at ht
    have hm : t ∈ [35, 3, 35] := by simpa using Array.mem_of_getElem? ht
    have hall : ([35, 3, 35].all fun u => !Tryz.prog.wantsStandIn u) = true := by kernel_rfl
    exact (show Tryz.prog.wantsStandIn t = false by simpa using List.all_eq_true.1 hall t hm)⟩)
  (by kernel_rfl)
#print axioms decimalOrder_card
end Go.Proofs.YtdoeigngpemcgaaGreatDoor
