/- The law NatSums answers true at every input, within its row's conditions. This is part 6 of 6: what the session's printing program wrote for the functions reached, and the session's own lemmas. -/
import Derived.Below
import Derived.ChangeOld
import Derived.LaidOnce
import Derived.Lay
import Derived.Lib.IndexBytes
import Derived.Lib.ItoaNum
import Derived.Lib.Strings
import Derived.OpenShut
import Derived.ProofKit
import Derived.SevenTiedAt
import Derived.ShutString
import Derived.SizedLaws
import Derived.WalkKit
import Derived.Test.YtkihjfpfocnneaaDoorCards
import Derived.Test.YtkihjfpfocnneaaDoorRows
import Derived.Test.YtkihjfpfocnneaaDoorSums1
import Derived.Test.YtkihjfpfocnneaaDoorSums2
import Derived.Test.YtkihjfpfocnneaaDoorSums3
import Derived.Test.YtkihjfpfocnneaaDoorSums4
import Derived.Test.YtkihjfpfocnneaaDoorSums5
import Derived.Test.YtkihjfpfocnneaaDoorTie
import Derived.Test.YtkihjfpfocnneaaDoorWSized
/- What nat's small functions compute, as numbers: no memory, no program. -/
namespace Go.Proofs.YtkihjfpfocnneaaDoor.Pure
open Go.RowKit Go.Proofs.YtkihjfpfocnneaaDoor.PNat Go.Proofs.YtkihjfpfocnneaaDoorW.PrintWords Go.Proofs.YtkihjfpfocnneaaDoorW.PrintLast Go.Proofs.YtkihjfpfocnneaaDoorW.PrintMore
set_option linter.unusedVariables false
set_option linter.unusedSimpArgs false
theorem i64_id {x : Int} (h0 : -9223372036854775808 ≤ x) (h1 : x ≤ 9223372036854775807) : wrap64 x = x := by unfold wrap64; omega
theorem u64_id {x : Int} (h0 : 0 ≤ x) (h1 : x < 18446744073709551616) : IntKind.u64.wrap x = x := by
  simp only [IntKind.wrap, IntKind.bits, IntKind.signed]
  simp
  omega

theorem ev_trim (l : List Int) (hl : l.length ≤ 1000000000) : Ev (fun k => nat_trim.f k l) (Num.trimW l) := by
  refine ⟨l.length + 1, fun k hk => ?_⟩
  unfold nat_trim.f
  exact trim_pure k l (by omega) (by omega)

theorem ev_large (l : List Int) (hl : l.length ≤ 1000000000) : Ev (fun k => nat_large.f k l) (decide (2000 < (Num.trimW l).length)) := by
  unfold nat_large.f
  refine Ev.bind (ev_trim l hl) ?_
  refine Ev.congr (fun k => ?_) (Ev.now _)
  congr 1
  rw [decide_eq_decide]
  omega

/-- a value that is answered, if it has no more words than may be -/
def fitsW (l : List Int) : List Int × Int := if 2000 < (Num.trimW l).length then ([], 2) else (Num.trimW l, 0)

theorem ev_fits (l : List Int) (hl : l.length ≤ 1000000000) : Ev (fun k => nat_fits.f k l) (fitsW l) := by
  unfold nat_fits.f fitsW
  refine Ev.bind (ev_large l hl) ?_
  by_cases h : 2000 < (Num.trimW l).length
  · simp only [decide_eq_true h, if_true, if_pos h]
    exact Ev.now _
  · simp only [decide_eq_false h, if_neg h]
    refine Ev.congr (f := fun k => (nat_trim.f k l).bind fun t => some (t, 0)) (fun k => by simp only [Bool.false_eq_true, if_false]) ?_
    exact Ev.bind (ev_trim l hl) (Ev.now _)

theorem fitsW_val {l m : List Int} (hl : Num.okW l) (hm : Num.okW m) (h : Num.valN l = Num.valN m) : fitsW l = fitsW m := by
  unfold fitsW
  rw [Num.trimW_eq_of_val hl hm h]

theorem ev_norm (l : List Int) (hl : l.length ≤ 1000000000) : Ev (fun k => nat_Norm.f k l) (Num.trimW l) := by
  unfold nat_Norm.f
  refine Ev.bind (ev_trim l hl) ?_
  have := Num.trimW_length_le l
  refine Ev.congr (fun k => ?_) (Ev.now (Num.trimW l))
  simp only [slices_Clone_uint32_uint32.f]
  rw [if_pos (by omega)]
  rfl

/-- two rows of words are one -/
theorem ev_same_l (l m : List Int) (hlm : l.length = m.length) (hl : l.length ≤ 1000000000) (d : Nat) : ∀ i : Nat, i + d = l.length →
    Ev (fun k => bobbinlaw2_same.l0 k l m (i : Int)) (decide (l.drop i = m.drop i)) := by
  induction d with
  | zero =>
    intro i hi
    refine Ev.step (f := fun _ => some (decide (l.drop i = m.drop i))) (fun k => ?_) (Ev.now _)
    simp only [bobbinlaw2_same.l0]
    rw [if_neg (by omega), List.drop_of_length_le (by omega), List.drop_of_length_le (by omega)]
    simp
  | succ d ih =>
    intro i hi
    by_cases h : rd l (i : Int) = rd m (i : Int)
    · refine Ev.step (f := fun k => bobbinlaw2_same.l0 k l m ((i + 1 : Nat) : Int)) (fun k => ?_) ?_
      · simp only [bobbinlaw2_same.l0]
        rw [if_pos (by omega), if_pos (by omega), if_pos (by omega), if_pos h, i64_id (by omega) (by omega)]
        rfl
      · have e : decide (l.drop i = m.drop i) = decide (l.drop (i + 1) = m.drop (i + 1)) := by
          rw [decide_eq_decide, List.drop_eq_getElem_cons (show i < l.length by omega), List.drop_eq_getElem_cons (show i < m.length by omega)]
          have h' : l[i]'(by omega) = m[i]'(by omega) := by
            simpa [rd, List.getD_eq_getElem?_getD, List.getElem?_eq_getElem (show i < l.length by omega), List.getElem?_eq_getElem (show i < m.length by omega)] using h
          rw [h', List.cons.injEq]
          simp only [true_and]
        rw [e]
        exact ih (i + 1) (by omega)
    · refine Ev.step (f := fun _ => some false) (fun k => ?_) ?_
      · simp only [bobbinlaw2_same.l0]
        rw [if_pos (by omega), if_pos (by omega), if_pos (by omega), if_neg h]
      · have e : decide (l.drop i = m.drop i) = false := by
          apply decide_eq_false
          rw [List.drop_eq_getElem_cons (show i < l.length by omega), List.drop_eq_getElem_cons (show i < m.length by omega)]
          intro hc
          injection hc with hc
          apply h
          simpa [rd, List.getD_eq_getElem?_getD, List.getElem?_eq_getElem (show i < l.length by omega), List.getElem?_eq_getElem (show i < m.length by omega)] using hc
        rw [e]
        exact Ev.now _

theorem ev_same (l m : List Int) (hl : l.length ≤ 1000000000) : Ev (fun k => bobbinlaw2_same.f k l m) (decide (l = m)) := by
  unfold bobbinlaw2_same.f
  by_cases h : l.length = m.length
  · refine Ev.congr (fun k => by rw [if_pos (by omega)]) ?_
    have := ev_same_l l m h hl l.length 0 (by omega)
    simpa using this
  · refine Ev.congr (fun k => by rw [if_neg (by omega)]) ?_
    have e : decide (l = m) = false := decide_eq_false (fun e => h (by rw [e]))
    rw [e]
    exact Ev.now _
theorem ev_same_self (l : List Int) (hl : l.length ≤ 1000000000) : Ev (fun k => bobbinlaw2_same.f k l l) true := by
  have := ev_same l l hl
  simpa using this

/-! more: words times a number, and a carry -/
theorem more_go (b : Int) (hb0 : 0 ≤ b) (hb1 : b < 4294967296) (l : List Int) (hl : Num.okW l) : ∀ c : Int, 0 ≤ c → c < 4294967296 →
    Num.okW (nat_more.go b l c).1 ∧ (nat_more.go b l c).1.length = l.length ∧ 0 ≤ (nat_more.go b l c).2 ∧ (nat_more.go b l c).2 < 4294967296 ∧
      Num.valN (nat_more.go b l c).1 + 4294967296 ^ l.length * (nat_more.go b l c).2.toNat = Num.valN l * b.toNat + c.toNat := by
  induction l with
  | nil => intro c h0 h1; simp [nat_more.go, Num.valN, h0, h1, Num.okW_nil]
  | cons x xs ih =>
    intro c h0 h1
    obtain ⟨⟨hx0, hx1⟩, hxs⟩ := Num.okW_cons.1 hl
    obtain ⟨B, rfl⟩ := Int.eq_ofNat_of_zero_le hb0
    obtain ⟨X, rfl⟩ := Int.eq_ofNat_of_zero_le hx0
    obtain ⟨C, rfl⟩ := Int.eq_ofNat_of_zero_le h0
    have hp : X * B ≤ 4294967295 * 4294967295 := Nat.mul_le_mul (by omega) (by omega)
    have e : IntKind.u64.wrap ((C : Int) + IntKind.u64.wrap (IntKind.u64.wrap (X : Int) * IntKind.u64.wrap (B : Int))) = ((C + X * B : Nat) : Int) := by
      rw [u64_id (x := (X : Int)) (by omega) (by omega), u64_id (x := (B : Int)) (by omega) (by omega), ← Int.natCast_mul, u64_id (x := ((X * B : Nat) : Int)) (by omega) (by omega), ← Int.natCast_add, u64_id (x := ((C + X * B : Nat) : Int)) (by omega) (by omega)]
    obtain ⟨T, hT⟩ : ∃ T, T = C + X * B := ⟨_, rfl⟩
    have hT1 : T < 18446744073709551616 := by omega
    simp only [nat_more.go, e, ← hT]
    have e2 : ((T : Int)) / 4294967296 = ((T / 4294967296 : Nat) : Int) := by omega
    have e3 : ((T : Int)) % 4294967296 = ((T % 4294967296 : Nat) : Int) := by omega
    rw [e2, e3]
    obtain ⟨i1, i2, i3, i4, i5⟩ := ih hxs ((T / 4294967296 : Nat) : Int) (by omega) (by omega)
    refine ⟨Num.okW_cons.2 ⟨by omega, i1⟩, by simp only [List.length_cons, i2], i3, i4, ?_⟩
    simp only [Num.valN, List.length_cons, Int.toNat_natCast] at i5 ⊢
    rw [Nat.pow_succ, Nat.add_mul, Nat.mul_comm (4294967296 ^ xs.length) 4294967296, Nat.mul_assoc, Nat.mul_assoc]
    have h2 : 4294967296 * (Num.valN (nat_more.go (B : Int) xs ((T / 4294967296 : Nat) : Int)).1 + 4294967296 ^ xs.length * (nat_more.go (B : Int) xs ((T / 4294967296 : Nat) : Int)).2.toNat) = 4294967296 * (Num.valN xs * B + T / 4294967296) := by rw [i5]
    rw [Nat.mul_add, Nat.mul_add] at h2
    omega

theorem more_val {b c : Int} (hb0 : 0 ≤ b) (hb1 : b < 4294967296) (hc0 : 0 ≤ c) (hc1 : c < 4294967296) {l : List Int} (hl : Num.okW l) (hlen : l.length ≤ 1000000000) :
    ∃ m, nat_more.f l b c = some m ∧ Num.okW m ∧ Num.valN m = Num.valN l * b.toNat + c.toNat ∧ m.length ≤ l.length + 1 := by
  unfold nat_more.f
  rw [if_pos (by omega), u64_id hc0 (by omega)]
  obtain ⟨i1, i2, i3, i4, i5⟩ := more_go b hb0 hb1 l hl c hc0 hc1
  by_cases h : 0 < (nat_more.go b l c).2
  · rw [if_pos h]
    refine ⟨_, rfl, Num.okW_append.2 ⟨i1, Num.okW_cons.2 ⟨by omega, Num.okW_nil⟩⟩, ?_, by simp [i2]⟩
    rw [Num.valN_append, i2, Int.emod_eq_of_lt i3 i4]
    simp only [Num.valN]
    omega
  · rw [if_neg h]
    refine ⟨_, rfl, i1, ?_, by omega⟩
    have : (nat_more.go b l c).2 = 0 := by omega
    rw [this] at i5
    simpa using i5

theorem bt_get (s : ByteArray) (i : Nat) (h : i < s.data.toList.length) : bt s (i : Int) = ((s.data.toList[i]).toNat : Int) := by
  have h' : i < s.size := by simpa using h
  unfold bt
  rw [dif_pos (by simpa using h')]
  simp [ByteArray.getElem_eq_getElem_data]

theorem toList_nil (s : ByteArray) : s.toList = [] ↔ s.size = 0 := by
  rw [Lib.toList_data, Lib.size_eq]
  exact List.length_eq_zero_iff.symm

/-- what a text reads as -/
def parseW (L : List UInt8) : List Int × Int :=
  if Num.digs L = false then ([], 3) else if L = [] then ([], 3) else if 5000 < L.length then ([], 2) else fitsW (Num.wordsN (Num.decL 0 L))

theorem decL_take_succ (L : List UInt8) (i : Nat) (h : i < L.length) : Num.decL 0 (L.take (i + 1)) = Num.decL 0 (L.take i) * 10 + (L[i].toNat - 48) := by
  rw [List.take_succ_eq_append_getElem h, Num.decL_append]
  rfl
theorem digs_take {L : List UInt8} (h : Num.digs L = true) (i : Nat) : Num.digs (L.take i) = true := by
  unfold Num.digs at *
  rw [List.all_eq_true] at *
  exact fun x hx => h x (List.mem_of_mem_take hx)
theorem digs_drop {L : List UInt8} (h : Num.digs L = true) (i : Nat) : Num.digs (L.drop i) = true := by
  unfold Num.digs at *
  rw [List.all_eq_true] at *
  exact fun x hx => h x (List.mem_of_mem_drop hx)

/-! nat.Parse -/
theorem parse_l2 (s : ByteArray) (L : List UInt8) (hL : s.data.toList = L) (hd : Num.digs L = true) (out : List Int) (n : Nat) (hn : n ≤ 9) (hnl : n ≤ L.length) (R : List Int × Int)
    (hR : Ev (fun k => (nat_more.f out ((10 ^ n : Nat) : Int) ((Num.decL 0 (L.take n) : Nat) : Int)).bind fun t => nat_Parse.l1 k (s.extract n s.size) t) R) (d : Nat) : ∀ i : Nat, i + d = n →
    Ev (fun k => nat_Parse.l2 k s out (n : Int) ((10 ^ i : Nat) : Int) ((Num.decL 0 (L.take i) : Nat) : Int) (n : Int) (i : Int)) R := by
  have hsz : s.size = L.length := by rw [← hL]; simp
  induction d with
  | zero =>
    intro i hi
    obtain rfl : i = n := by omega
    refine Ev.step (fun k => ?_) hR
    simp only [nat_Parse.l2]
    rw [if_neg (by omega)]
    congr 1
    funext t
    rw [if_pos (by omega), if_pos (by omega)]
    rfl
  | succ d ih =>
    intro i hi
    refine Ev.step (fun k => ?_) (ih (i + 1) (by omega))
    simp only [nat_Parse.l2]
    have hc := Num.digs_mem hd (L[i]'(by omega)) (List.getElem_mem _)
    have hb : bt s (i : Int) = ((L[i]'(by omega)).toNat : Int) := by
      subst hL
      exact bt_get s i (by omega)
    have hlt := Num.decL_lt (L.take i) (Num.digs_mem (digs_take hd i))
    rw [List.length_take, Nat.min_eq_left (by omega)] at hlt
    have hp : (10 : Nat) ^ i ≤ 10 ^ 8 := Nat.pow_le_pow_right (by decide) (by omega)
    rw [if_pos (by omega), if_pos (by omega), if_pos (by omega), hb, i64_id (by omega) (by omega)]
    have e1 : ((10 ^ i : Nat) : Int) * 10 % 4294967296 = ((10 ^ (i + 1) : Nat) : Int) := by
      rw [Nat.pow_succ]
      omega
    have e2 : (((Num.decL 0 (L.take i) : Nat) : Int) * 10 % 4294967296 + (((L[i]'(by omega)).toNat : Int) - 48) % 256) % 4294967296 = ((Num.decL 0 (L.take (i + 1)) : Nat) : Int) := by
      rw [decL_take_succ L i (by omega)]
      omega
    rw [e1, e2]
    rfl

theorem parse_l1 (m : Nat) : ∀ (s : ByteArray) (L : List UInt8) (out : List Int), s.data.toList = L → L.length = m → Num.digs L = true → Num.okW out → out.length + L.length ≤ 900000 →
    Ev (fun k => nat_Parse.l1 k s out) (fitsW (Num.wordsN (Num.decL (Num.valN out) L))) := by
  induction m using Nat.strongRecOn with
  | _ m ih =>
    intro s L out hL hm hd hok hlen
    have hsz : s.size = L.length := by rw [← hL]; simp
    by_cases h0 : L.length = 0
    · have hnil : L = [] := List.eq_nil_of_length_eq_zero h0
      refine Ev.step (f := fun k => (nat_fits.f k out).bind fun t => some (t.1, t.2)) (fun k => ?_) ?_
      · simp only [nat_Parse.l1]
        rw [if_neg (by omega)]
      · rw [hnil]
        show Ev _ (fitsW (Num.wordsN (Num.valN out)))
        rw [fitsW_val (Num.wordsN_ok _) hok (Num.wordsN_val _)]
        exact Ev.bind (ev_fits out (by omega)) (Ev.now _)
    · obtain ⟨n, hn⟩ : ∃ n, n = min L.length 9 := ⟨_, rfl⟩
      have hmn : mn (s.size : Int) 9 = (n : Int) := by unfold mn; split <;> omega
      have hlt := Num.decL_lt (L.take n) (Num.digs_mem (digs_take hd n))
      rw [List.length_take, Nat.min_eq_left (by omega)] at hlt
      have hp : (10 : Nat) ^ n ≤ 10 ^ 9 := Nat.pow_le_pow_right (by decide) (by omega)
      have hp0 : 0 < (10 : Nat) ^ n := Nat.pow_pos (by decide)
      obtain ⟨t, ht, hto, htv, htl⟩ := more_val (b := ((10 ^ n : Nat) : Int)) (c := ((Num.decL 0 (L.take n) : Nat) : Int)) (by omega) (by omega) (by omega) (by omega) hok (by omega)
      have hd2 : (s.extract n s.size).data.toList = L.drop n := by
        rw [← hL]
        exact Lib.extract_to_end s n
      have key := ih (L.length - n) (by omega) (s.extract n s.size) (L.drop n) t hd2 (by simp) (digs_drop hd n) hto (by simp; omega)
      have e : Num.decL (Num.valN t) (L.drop n) = Num.decL (Num.valN out) L := by
        rw [htv]
        have h3 : L = L.take n ++ L.drop n := (List.take_append_drop n L).symm
        conv => rhs; rw [h3, Num.decL_append, Num.decL_acc (Num.valN out) (L.take n), List.length_take, Nat.min_eq_left (show n ≤ L.length by omega)]
        simp only [Int.toNat_natCast]
      rw [e] at key
      refine Ev.step (f := fun k => nat_Parse.l2 k s out (n : Int) ((10 ^ 0 : Nat) : Int) ((Num.decL 0 (L.take 0) : Nat) : Int) (n : Int) ((0 : Nat) : Int)) (fun k => ?_) ?_
      · simp only [nat_Parse.l1]
        rw [if_pos (by omega), hmn]
        rfl
      · refine parse_l2 s L hL hd out n (by omega) (by omega) _ ?_ n 0 (by omega)
        rw [ht]
        exact key

theorem parse_l0 (s : ByteArray) (L : List UInt8) (hL : s.data.toList = L) (hlen : L.length ≤ 900000) (d : Nat) : ∀ i : Nat, i + d = L.length → Num.digs (L.take i) = true →
    Ev (fun k => nat_Parse.l0 k s (s.size : Int) (i : Int)) (parseW L) := by
  have hsz : s.size = L.length := by rw [← hL]; simp
  induction d with
  | zero =>
    intro i hi hd
    rw [List.take_of_length_le (by omega)] at hd
    have hnil := toList_nil s
    unfold parseW
    rw [if_neg (by rw [hd]; decide)]
    by_cases h0 : L = []
    · rw [if_pos h0]
      refine Ev.step (f := fun _ => some (([] : List Int), (3 : Int))) (fun k => ?_) (Ev.now _)
      simp only [nat_Parse.l0]
      rw [if_neg (by omega), if_pos (hnil.2 (by rw [hsz, h0]; rfl))]
    · rw [if_neg h0]
      have h1 : ¬ s.toList = [] := fun h => h0 (List.eq_nil_of_length_eq_zero (by rw [← hsz]; exact hnil.1 h))
      by_cases h5 : 5000 < L.length
      · rw [if_pos h5]
        refine Ev.step (f := fun _ => some (([] : List Int), (2 : Int))) (fun k => ?_) (Ev.now _)
        simp only [nat_Parse.l0]
        rw [if_neg (by omega), if_neg h1, if_pos (by omega)]
      · rw [if_neg h5]
        refine Ev.step (f := fun k => nat_Parse.l1 k s ([] : List Int)) (fun k => ?_) ?_
        · simp only [nat_Parse.l0]
          rw [if_neg (by omega), if_neg h1, if_neg (by omega)]
        · exact parse_l1 L.length s L [] hL rfl hd Num.okW_nil (by simp; omega)
  | succ d ih =>
    intro i hi hd
    have hb : bt s (i : Int) = ((L[i]'(by omega)).toNat : Int) := by
      subst hL
      exact bt_get s i (by omega)
    have hbad : ¬ (48 ≤ (L[i]'(by omega)).toNat ∧ (L[i]'(by omega)).toNat ≤ 57) → parseW L = ([], 3) := by
      intro h
      unfold parseW
      rw [if_pos]
      cases hq : Num.digs L with
      | false => rfl
      | true => exact absurd (Num.digs_mem hq _ (List.getElem_mem _)) h
    by_cases h1 : (L[i]'(by omega)).toNat < 48
    · rw [hbad (by omega)]
      refine Ev.step (f := fun _ => some (([] : List Int), (3 : Int))) (fun k => ?_) (Ev.now _)
      simp only [nat_Parse.l0]
      rw [if_pos (by omega), if_pos (by omega), if_pos (by omega), hb, if_pos (by omega)]
    · by_cases h2 : 57 < (L[i]'(by omega)).toNat
      · rw [hbad (by omega)]
        refine Ev.step (f := fun _ => some (([] : List Int), (3 : Int))) (fun k => ?_) (Ev.now _)
        simp only [nat_Parse.l0]
        rw [if_pos (by omega), if_pos (by omega), if_pos (by omega), hb, if_neg (by omega), if_pos (by omega)]
      · refine Ev.step (fun k => ?_) (ih (i + 1) (by omega) ?_)
        · simp only [nat_Parse.l0]
          rw [if_pos (by omega), if_pos (by omega), if_pos (by omega), hb, if_neg (by omega), if_neg (by omega), i64_id (by omega) (by omega)]
          rfl
        · rw [List.take_succ_eq_append_getElem (by omega)]
          unfold Num.digs at hd ⊢
          rw [List.all_append, hd]
          simp
          omega

theorem ev_parse (s : ByteArray) (hlen : s.size ≤ 900000) : Ev (fun k => nat_Parse.f k s) (parseW s.data.toList) := by
  unfold nat_Parse.f
  have := parse_l0 s s.data.toList rfl (by simpa using hlen) s.data.toList.length 0 (by omega) (by simp [Num.digs])
  simpa using this

theorem take_zero_step {l : List Int} {j : Nat} (hj : j < l.length) (h : rd l (j : Int) = 0) : Num.trimW (l.take (j + 1)) = Num.trimW (l.take j) := by
  rw [List.take_succ_eq_append_getElem hj]
  have e : l[j] = 0 := by simpa [rd, List.getD_eq_getElem?_getD, List.getElem?_eq_getElem hj] using h
  rw [e, Num.trimW_snoc_zero]
theorem take_ne_step {l : List Int} {j : Nat} (hj : j < l.length) (h : ¬ rd l (j : Int) = 0) : Num.trimW (l.take (j + 1)) = l.take (j + 1) := by
  rw [List.take_succ_eq_append_getElem hj]
  have e : l[j] ≠ 0 := by
    intro e
    apply h
    simpa [rd, List.getD_eq_getElem?_getD, List.getElem?_eq_getElem hj] using e
  rw [Num.trimW_snoc_ne _ e]

theorem rnorm_l0 (l : List Int) (hl : l.length ≤ 1000000000) : ∀ i : Nat, i ≤ l.length → Ev (fun k => bobbinref2_Norm.l0 k l (i : Int)) (Num.trimW (l.take i)) := by
  intro i
  induction i with
  | zero =>
    intro _
    refine Ev.step (f := fun _ => some (Num.trimW (l.take 0))) (fun k => ?_) (Ev.now _)
    simp only [bobbinref2_Norm.l0]
    rw [if_neg (by omega), if_pos (by omega), if_pos (by omega), if_pos (by simp)]
    simp [Num.trimW]
  | succ j ih =>
    intro hj
    have e1 : wrap64 (((j + 1 : Nat) : Int) - 1) = (j : Int) := by rw [i64_id (by omega) (by omega)]; omega
    by_cases h : rd l (j : Int) = 0
    · refine Ev.step (fun k => ?_) (by rw [take_zero_step (by omega) h]; exact ih (by omega))
      simp only [bobbinref2_Norm.l0]
      rw [if_pos (by omega), e1, if_pos (by omega), if_pos (by omega), if_pos h]
    · refine Ev.step (f := fun _ => some (Num.trimW (l.take (j + 1)))) (fun k => ?_) (Ev.now _)
      simp only [bobbinref2_Norm.l0]
      rw [if_pos (by omega), e1, if_pos (by omega), if_pos (by omega), if_neg h, if_pos (by omega), if_pos (by omega), if_pos (by simp; omega), take_ne_step (by omega) h]
      rfl
theorem ev_rnorm (l : List Int) (hl : l.length ≤ 1000000000) : Ev (fun k => bobbinref2_Norm.f k l) (Num.trimW l) := by
  unfold bobbinref2_Norm.f
  have := rnorm_l0 l hl l.length (Nat.le_refl _)
  rwa [List.take_length] at this

theorem rtrim_l0 (l : List Int) (hl : l.length ≤ 1000000000) : ∀ i : Nat, i ≤ l.length → Ev (fun k => bobbinref2_trimmed.l0 k l (i : Int)) (Num.trimW (l.take i)) := by
  intro i
  induction i with
  | zero =>
    intro _
    refine Ev.step (f := fun _ => some (Num.trimW (l.take 0))) (fun k => ?_) (Ev.now _)
    simp only [bobbinref2_trimmed.l0]
    rw [if_neg (by omega), if_pos (by omega), if_pos (by omega)]
    simp [Num.trimW]
  | succ j ih =>
    intro hj
    have e1 : wrap64 (((j + 1 : Nat) : Int) - 1) = (j : Int) := by rw [i64_id (by omega) (by omega)]; omega
    by_cases h : rd l (j : Int) = 0
    · refine Ev.step (fun k => ?_) (by rw [take_zero_step (by omega) h]; exact ih (by omega))
      simp only [bobbinref2_trimmed.l0]
      rw [if_pos (by omega), e1, if_pos (by omega), if_pos (by omega), if_pos h]
    · refine Ev.step (f := fun _ => some (Num.trimW (l.take (j + 1)))) (fun k => ?_) (Ev.now _)
      simp only [bobbinref2_trimmed.l0]
      rw [if_pos (by omega), e1, if_pos (by omega), if_pos (by omega), if_neg h, if_pos (by omega), if_pos (by omega), take_ne_step (by omega) h]
      rfl
theorem ev_rtrim (l : List Int) (hl : l.length ≤ 1000000000) : Ev (fun k => bobbinref2_trimmed.f k l) (Num.trimW l) := by
  unfold bobbinref2_trimmed.f
  have := rtrim_l0 l hl l.length (Nat.le_refl _)
  rwa [List.take_length] at this

/-! the reference's Parse -/
theorem rparse_l2 (s : ByteArray) (i : Nat) (R : List Int × Int) (m : List Int) (c0 : Int) (m' : List Int) (hm' : nat_more.f m 10 c0 = some m') (hlen : m.length ≤ 1000000) (hi : i ≤ 1000000)
    (hR : Ev (fun k => bobbinref2_Parse.l1 k s m' ((i + 1 : Nat) : Int)) R) (d : Nat) : ∀ (j : Nat) (cur : List Int) (c : Int), j + d = m.length → cur.length = m.length → nat_more.go 10 m (IntKind.u64.wrap c0) = (cur.take j ++ (nat_more.go 10 (cur.drop j) c).1, (nat_more.go 10 (cur.drop j) c).2) →
      Ev (fun k => bobbinref2_Parse.l2 k s cur (i : Int) c (j : Int)) R := by
  have e10 : IntKind.u64.wrap 10 = 10 := by decide
  induction d with
  | zero =>
    intro j cur c hj hc hg
    rw [List.take_of_length_le (by omega), List.drop_of_length_le (by omega)] at hg
    simp only [nat_more.go, List.append_nil] at hg
    unfold nat_more.f at hm'
    rw [if_pos (by omega), hg] at hm'
    simp only at hm'
    by_cases h : 0 < c
    · rw [if_pos h] at hm'
      obtain rfl := Option.some.inj hm'
      refine Ev.step (fun k => ?_) hR
      simp only [bobbinref2_Parse.l2]
      rw [if_neg (by omega), if_pos (by omega), if_pos (by omega), i64_id (by omega) (by omega)]
      rfl
    · rw [if_neg h] at hm'
      obtain rfl := Option.some.inj hm'
      refine Ev.step (fun k => ?_) hR
      simp only [bobbinref2_Parse.l2]
      rw [if_neg (by omega), if_neg (by omega), i64_id (by omega) (by omega)]
      rfl
  | succ d ih =>
    intro j cur c hj hc hg
    have hs := nat_more.step 10 c cur j (by omega)
    rw [hs] at hg
    have key := ih (j + 1) _ _ (by omega) (by rw [List.length_set]; exact hc) hg
    refine Ev.step (fun k => ?_) key
    simp only [bobbinref2_Parse.l2]
    rw [if_pos (by omega), if_pos (by omega), i64_id (by omega) (by omega), e10]
    simp only [Int.toNat_natCast]
    rfl

theorem rparse_l1 (s : ByteArray) (L : List UInt8) (hL : s.data.toList = L) (hd : Num.digs L = true) (hlen : L.length ≤ 5000) (d : Nat) : ∀ (i : Nat) (m : List Int), i + d = L.length → Num.okW m → m.length ≤ i →
    Ev (fun k => bobbinref2_Parse.l1 k s m (i : Int)) (fitsW (Num.wordsN (Num.decL (Num.valN m) (L.drop i)))) := by
  have hsz : s.size = L.length := by rw [← hL]; simp
  induction d with
  | zero =>
    intro i m hi hok hml
    rw [List.drop_of_length_le (by omega)]
    show Ev _ (fitsW (Num.wordsN (Num.valN m)))
    rw [fitsW_val (Num.wordsN_ok _) hok (Num.wordsN_val _)]
    refine Ev.step (f := fun k => (bobbinref2_Norm.f k m).bind fun t => if (t.length : Int) > 2000 then some ([], 2) else some (t, 0)) (fun k => ?_) (Ev.bind (ev_rnorm m (by omega)) ?_)
    · simp only [bobbinref2_Parse.l1]
      rw [if_neg (by omega)]
    · unfold fitsW
      by_cases h : 2000 < (Num.trimW m).length
      · rw [if_pos h]
        refine Ev.congr (fun k => ?_) (Ev.now _)
        rw [if_pos (by omega)]
      · rw [if_neg h]
        refine Ev.congr (fun k => ?_) (Ev.now _)
        rw [if_neg (by omega)]
  | succ d ih =>
    intro i m hi hok hml
    have hc := Num.digs_mem hd (L[i]'(by omega)) (List.getElem_mem _)
    have hb : bt s (i : Int) = ((L[i]'(by omega)).toNat : Int) := by
      subst hL
      exact bt_get s i (by omega)
    obtain ⟨c, hcc⟩ : ∃ c : Nat, c = (L[i]'(by omega)).toNat - 48 := ⟨_, rfl⟩
    obtain ⟨m', hm', ho', hv', hl'⟩ := more_val (b := 10) (c := (c : Int)) (by decide) (by decide) (by omega) (by omega) hok (by omega)
    have key := ih (i + 1) m' (by omega) ho' (by omega)
    have e : Num.decL (Num.valN m) (L.drop i) = Num.decL (Num.valN m') (L.drop (i + 1)) := by
      rw [List.drop_eq_getElem_cons (show i < L.length by omega), hv']
      show Num.decL (Num.valN m * 10 + ((L[i]'(by omega)).toNat - 48)) (L.drop (i + 1)) = _
      rw [← hcc]
      simp
    rw [e]
    refine Ev.step (f := fun k => bobbinref2_Parse.l2 k s m (i : Int) (c : Int) ((0 : Nat) : Int)) (fun k => ?_) ?_
    · simp only [bobbinref2_Parse.l1]
      rw [if_pos (by omega), if_pos (by omega), hb]
      have e2 : (((L[i]'(by omega)).toNat : Int) - 48) % 256 = (c : Int) := by omega
      rw [e2]
      rfl
    · refine rparse_l2 s i _ m (c : Int) m' hm' (by omega) (by omega) key m.length 0 m (c : Int) (by omega) rfl ?_
      rw [u64_id (by omega) (by omega)]
      simp

theorem rparse_l0 (s : ByteArray) (L : List UInt8) (hL : s.data.toList = L) (hne : L ≠ []) (hlen : L.length ≤ 900000) (d : Nat) : ∀ i : Nat, i + d = L.length → Num.digs (L.take i) = true →
    Ev (fun k => bobbinref2_Parse.l0 k s (i : Int)) (parseW L) := by
  have hsz : s.size = L.length := by rw [← hL]; simp
  induction d with
  | zero =>
    intro i hi hd
    rw [List.take_of_length_le (by omega)] at hd
    unfold parseW
    rw [if_neg (by rw [hd]; decide), if_neg hne]
    by_cases h5 : 5000 < L.length
    · rw [if_pos h5]
      refine Ev.step (f := fun _ => some (([] : List Int), (2 : Int))) (fun k => ?_) (Ev.now _)
      simp only [bobbinref2_Parse.l0]
      rw [if_neg (by omega), if_pos (by omega)]
    · rw [if_neg h5]
      refine Ev.step (f := fun k => bobbinref2_Parse.l1 k s ([] : List Int) ((0 : Nat) : Int)) (fun k => ?_) ?_
      · simp only [bobbinref2_Parse.l0]
        rw [if_neg (by omega), if_neg (by omega)]
        rfl
      · exact rparse_l1 s L hL hd (by omega) L.length 0 [] (by omega) Num.okW_nil (by simp)
  | succ d ih =>
    intro i hi hd
    have hb : bt s (i : Int) = ((L[i]'(by omega)).toNat : Int) := by
      subst hL
      exact bt_get s i (by omega)
    have hbad : ¬ (48 ≤ (L[i]'(by omega)).toNat ∧ (L[i]'(by omega)).toNat ≤ 57) → parseW L = ([], 3) := by
      intro h
      unfold parseW
      rw [if_pos]
      cases hq : Num.digs L with
      | false => rfl
      | true => exact absurd (Num.digs_mem hq _ (List.getElem_mem _)) h
    by_cases h1 : (L[i]'(by omega)).toNat < 48
    · rw [hbad (by omega)]
      refine Ev.step (f := fun _ => some (([] : List Int), (3 : Int))) (fun k => ?_) (Ev.now _)
      simp only [bobbinref2_Parse.l0]
      rw [if_pos (by omega), if_pos (by omega), hb, if_pos (by omega)]
    · by_cases h2 : 57 < (L[i]'(by omega)).toNat
      · rw [hbad (by omega)]
        refine Ev.step (f := fun _ => some (([] : List Int), (3 : Int))) (fun k => ?_) (Ev.now _)
        simp only [bobbinref2_Parse.l0]
        rw [if_pos (by omega), if_pos (by omega), hb, if_neg (by omega), if_pos (by omega)]
      · refine Ev.step (fun k => ?_) (ih (i + 1) (by omega) ?_)
        · simp only [bobbinref2_Parse.l0]
          rw [if_pos (by omega), if_pos (by omega), hb, if_neg (by omega), if_neg (by omega), i64_id (by omega) (by omega)]
          rfl
        · rw [List.take_succ_eq_append_getElem (by omega)]
          unfold Num.digs at hd ⊢
          rw [List.all_append, hd]
          simp
          omega

theorem ev_rparse (s : ByteArray) (hlen : s.size ≤ 900000) : Ev (fun k => bobbinref2_Parse.f k s) (parseW s.data.toList) := by
  unfold bobbinref2_Parse.f
  by_cases h0 : s.toList = []
  · refine Ev.congr (f := fun _ => some (([] : List Int), (3 : Int))) (fun k => by rw [if_pos h0]) ?_
    have : s.data.toList = [] := by rw [← Lib.toList_data]; exact h0
    rw [this]
    exact Ev.now _
  · refine Ev.congr (f := fun k => bobbinref2_Parse.l0 k s 0) (fun k => by rw [if_neg h0]) ?_
    have := rparse_l0 s s.data.toList rfl (by rw [← Lib.toList_data]; exact h0) (by simpa using hlen) s.data.toList.length 0 (by omega) (by simp [Num.digs])
    simpa using this

open Go.Proofs.YtkihjfpfocnneaaDoor.PNatO in
theorem otrim_l0 (l : List Int) (hl : l.length ≤ 1000000000) : ∀ i : Nat, i ≤ l.length → Ev (fun k => PNatO.bobbinref2_trimmed.l0 k l (i : Int)) (Num.trimW (l.take i)) := by
  intro i
  induction i with
  | zero =>
    intro _
    refine Ev.step (f := fun _ => some (Num.trimW (l.take 0))) (fun k => ?_) (Ev.now _)
    simp only [PNatO.bobbinref2_trimmed.l0]
    rw [if_neg (by omega), if_pos (by omega), if_pos (by omega)]
    simp [Num.trimW]
  | succ j ih =>
    intro hj
    have e1 : wrap64 (((j + 1 : Nat) : Int) - 1) = (j : Int) := by rw [i64_id (by omega) (by omega)]; omega
    by_cases h : rd l (j : Int) = 0
    · refine Ev.step (fun k => ?_) (by rw [take_zero_step (by omega) h]; exact ih (by omega))
      simp only [PNatO.bobbinref2_trimmed.l0]
      rw [if_pos (by omega), e1, if_pos (by omega), if_pos (by omega), if_pos h]
    · refine Ev.step (f := fun _ => some (Num.trimW (l.take (j + 1)))) (fun k => ?_) (Ev.now _)
      simp only [PNatO.bobbinref2_trimmed.l0]
      rw [if_pos (by omega), e1, if_pos (by omega), if_pos (by omega), if_neg h, if_pos (by omega), if_pos (by omega), take_ne_step (by omega) h]
      rfl
theorem ev_otrim (l : List Int) (hl : l.length ≤ 1000000000) : Ev (fun k => PNatO.bobbinref2_trimmed.f k l) (Num.trimW l) := by
  unfold PNatO.bobbinref2_trimmed.f
  have := otrim_l0 l hl l.length (Nat.le_refl _)
  rwa [List.take_length] at this
theorem onorm_l0 (l : List Int) (hl : l.length ≤ 1000000000) : ∀ i : Nat, i ≤ l.length → Ev (fun k => PNatO.bobbinref2_Norm.l0 k l (i : Int)) (Num.trimW (l.take i)) := by
  intro i
  induction i with
  | zero =>
    intro _
    refine Ev.step (f := fun _ => some (Num.trimW (l.take 0))) (fun k => ?_) (Ev.now _)
    simp only [PNatO.bobbinref2_Norm.l0]
    rw [if_neg (by omega), if_pos (by omega), if_pos (by omega), if_pos (by simp)]
    simp [Num.trimW]
  | succ j ih =>
    intro hj
    have e1 : wrap64 (((j + 1 : Nat) : Int) - 1) = (j : Int) := by rw [i64_id (by omega) (by omega)]; omega
    by_cases h : rd l (j : Int) = 0
    · refine Ev.step (fun k => ?_) (by rw [take_zero_step (by omega) h]; exact ih (by omega))
      simp only [PNatO.bobbinref2_Norm.l0]
      rw [if_pos (by omega), e1, if_pos (by omega), if_pos (by omega), if_pos h]
    · refine Ev.step (f := fun _ => some (Num.trimW (l.take (j + 1)))) (fun k => ?_) (Ev.now _)
      simp only [PNatO.bobbinref2_Norm.l0]
      rw [if_pos (by omega), e1, if_pos (by omega), if_pos (by omega), if_neg h, if_pos (by omega), if_pos (by omega), if_pos (by simp; omega), take_ne_step (by omega) h]
      rfl
theorem ev_onorm (l : List Int) (hl : l.length ≤ 1000000000) : Ev (fun k => PNatO.bobbinref2_Norm.f k l) (Num.trimW l) := by
  unfold PNatO.bobbinref2_Norm.f
  have := onorm_l0 l hl l.length (Nat.le_refl _)
  rwa [List.take_length] at this

theorem or_join {c x : Int} (hc0 : 0 ≤ c) (hc1 : c < 1000000000) (hx0 : 0 ≤ x) (hx1 : x < 4294967296) : bits .or .u64 (IntKind.u64.wrap (c * 4294967296)) (IntKind.u64.wrap x) = c * 4294967296 + x := by
  rw [u64_id (x := c * 4294967296) (by omega) (by omega), u64_id hx0 (by omega), u64_or _ _ (by omega) (by omega) (by omega) (by omega), nat_join 32 _ _ (by omega) (by omega)]
  omega

/-- nine digits of a piece, the lowest first -/
def rev9 (n : Int) : List Int := (List.range 9).map fun t => 48 + n / 10 ^ t % 10
theorem rev9_dg9 (n : Int) : (rev9 n).reverse.map (fun z => UInt8.ofNat z.toNat) = Num.dg9 n := by
  simp [rev9, Num.dg9, List.range, List.range.loop]
theorem div_10 (n : Int) (k : Nat) : n / 10 ^ k / 10 = n / 10 ^ (k + 1) := by
  rw [Int.ediv_ediv_of_nonneg (Int.pow_nonneg (by decide)), Int.pow_succ]

theorem rtext_l2 (m b : List Int) (c : Int) (hc0 : 0 ≤ c) (hc1 : c < 1000000000) (R : ByteArray) (hb : b.length ≤ 100000000) (hR : Ev (fun k => PNatO.bobbinref2_Text.l0 k m (b ++ rev9 c)) R) (d : Nat) : ∀ t : Nat, t + d = 9 →
    Ev (fun k => PNatO.bobbinref2_Text.l2 k m (b ++ (List.range t).map (fun t => 48 + c / 10 ^ t % 10)) (c / 10 ^ t) (t : Int)) R := by
  induction d with
  | zero =>
    intro t ht
    obtain rfl : t = 9 := by omega
    refine Ev.step (fun k => ?_) hR
    simp only [PNatO.bobbinref2_Text.l2]
    rw [if_neg (by omega)]
    rfl
  | succ d ih =>
    intro t ht
    have h0 : 0 ≤ c / 10 ^ t := Int.ediv_nonneg hc0 (Int.pow_nonneg (by decide))
    have h1 : c / 10 ^ t < 1000000000 := Int.lt_of_le_of_lt (Int.ediv_le_self _ hc0) hc1
    refine Ev.step (fun k => ?_) (ih (t + 1) (by omega))
    simp only [PNatO.bobbinref2_Text.l2]
    rw [if_pos (by omega), if_pos (by simp; omega), i64_id (by omega) (by omega), List.range_succ, List.map_append, ← List.append_assoc]
    have e1 : IntKind.u64.wrap (48 + (c / 10 ^ t).tmod 10) % 256 = 48 + c / 10 ^ t % 10 := by
      rw [Int.tmod_eq_emod_of_nonneg h0, u64_id (by omega) (by omega)]
      omega
    have e2 : IntKind.u64.wrap ((c / 10 ^ t).tdiv 10) = c / 10 ^ (t + 1) := by
      rw [Int.tdiv_eq_ediv_of_nonneg h0, u64_id (by omega) (by omega), div_10]
    rw [e1, e2]
    rfl

theorem rtext_l1 (ml b : List Int) (hok : Num.okW ml) (hlen : ml.length ≤ 1000000) (R : ByteArray)
    (hR : Ev (fun k => PNatO.bobbinref2_Text.l2 k (Num.trimW (Num.shq 1000000000 ml).1) b (Num.shq 1000000000 ml).2 0) R) : ∀ (j : Nat) (cur : List Int) (c : Int), j ≤ ml.length → cur.length = ml.length → cur.take j = ml.take j → cur.drop j = (Num.shq 1000000000 (ml.drop j)).1 → c = (Num.shq 1000000000 (ml.drop j)).2 →
      Ev (fun k => PNatO.bobbinref2_Text.l1 k cur b c ((j : Int) - 1)) R := by
  intro j
  induction j with
  | zero =>
    intro cur c hj hl ht hd hc
    have e1 : cur = (Num.shq 1000000000 ml).1 := by simpa using hd
    have e2 : c = (Num.shq 1000000000 ml).2 := by simpa using hc
    refine Ev.step (f := fun k => (PNatO.bobbinref2_trimmed.f k cur).bind fun t => PNatO.bobbinref2_Text.l2 k t b c 0) (fun k => ?_) ?_
    · simp only [PNatO.bobbinref2_Text.l1]
      rw [if_neg (by omega)]
    · refine Ev.bind (ev_otrim cur (by omega)) ?_
      rw [e1, e2]
      exact hR
  | succ j ih =>
    intro cur c hj hl ht hd hc
    have hr := Num.shq_rest (d := 1000000000) (by decide) (ml.drop (j + 1))
    rw [← hc] at hr
    have hx : rd cur (j : Int) = ml[j]'(by omega) := cur_get hl (by omega) ht
    have hxr := hok (ml[j]'(by omega)) (List.getElem_mem _)
    have e0 : (((j + 1 : Nat) : Int) - 1) = (j : Int) := by omega
    have hs := shq_cons_step 1000000000 ml j (by omega)
    rw [← hc] at hs
    have hq0 : 0 ≤ (c * 4294967296 + ml[j]'(by omega)) / 1000000000 := by omega
    have hq1 : (c * 4294967296 + ml[j]'(by omega)) / 1000000000 < 4294967296 := by omega
    refine Ev.step (fun k => ?_) (ih (cur.set j ((c * 4294967296 + ml[j]'(by omega)) / 1000000000)) ((c * 4294967296 + ml[j]'(by omega)) % 1000000000) (by omega) (by rw [List.length_set]; exact hl) (cur_take _ ht) ?_ ?_)
    · simp only [PNatO.bobbinref2_Text.l1]
      rw [e0, if_pos (by omega), if_pos (by omega), if_pos (by omega), hx, or_join hr.1 hr.2 hxr.1 hxr.2, Int.tdiv_eq_ediv_of_nonneg (by omega), Int.tmod_eq_emod_of_nonneg (by omega), u64_id (by omega) (by omega), Int.emod_eq_of_lt hq0 hq1, i64_id (by omega) (by omega)]
      rfl
    · rw [cur_drop _ (by omega), hd, hs]
    · rw [hs]

theorem rtext_l4 (b : List Int) (hb : b.length ≤ 100000000) : ∀ (i : Nat) (acc : List Int), i ≤ b.length → acc.length + i ≤ 100000000 →
    Ev (fun k => PNatO.bobbinref2_Text.l4 k b acc ((i : Int) - 1)) (strOfNums (acc ++ (b.take i).reverse)) := by
  intro i
  induction i with
  | zero =>
    intro acc _ _
    refine Ev.step (f := fun _ => some (strOfNums (acc ++ (b.take 0).reverse))) (fun k => ?_) (Ev.now _)
    simp only [PNatO.bobbinref2_Text.l4]
    rw [if_neg (by omega)]
    simp
  | succ i ih =>
    intro acc hi ha
    have e0 : (((i + 1 : Nat) : Int) - 1) = (i : Int) := by omega
    have hg : rd b (i : Int) = b[i]'(by omega) := by simp [rd, List.getD_eq_getElem?_getD, List.getElem?_eq_getElem (show i < b.length by omega)]
    have key := ih (acc ++ [b[i]'(by omega)]) (by omega) (by simp; omega)
    rw [List.take_succ_eq_append_getElem (show i < b.length by omega), List.reverse_append]
    rw [List.append_assoc] at key
    refine Ev.step (fun k => ?_) key
    simp only [PNatO.bobbinref2_Text.l4]
    rw [e0, if_pos (by omega), if_pos (by omega), if_pos (by omega), if_pos (by omega), hg, i64_id (by omega) (by omega)]

theorem rtext_j4 (b : List Int) (hb : b.length ≤ 90000000) (n : Nat) (hn : n ≤ b.length) : Ev (fun k => PNatO.bobbinref2_Text.j4 k b (n : Int)) (strOfNums (b.take n).reverse) := by
  refine Ev.step (f := fun k => PNatO.bobbinref2_Text.l4 k b [] ((n : Int) - 1)) (fun k => ?_) ?_
  · simp only [PNatO.bobbinref2_Text.j4]
    rw [i64_id (by omega) (by omega)]
  · exact rtext_l4 b (by omega) n [] hn (by simp; omega)

theorem rtext_l3 (b : List Int) (hb : b.length ≤ 90000000) : ∀ n : Nat, n ≤ b.length → (∃ c ∈ b.take n, c ≠ 48) →
    Ev (fun k => PNatO.bobbinref2_Text.l3 k b (n : Int)) (strOfNums ((b.take n).reverse.dropWhile (· == 48))) := by
  intro n
  induction n with
  | zero => rintro _ ⟨c, hc, _⟩; simp at hc
  | succ j ih =>
    rintro hn ⟨c, hc, hcne⟩
    have hg : rd b (j : Int) = b[j]'(by omega) := by simp [rd, List.getD_eq_getElem?_getD, List.getElem?_eq_getElem (show j < b.length by omega)]
    rw [List.take_succ_eq_append_getElem (show j < b.length by omega)] at hc
    by_cases h48 : b[j]'(by omega) = 48
    · have hc2 : c ∈ b.take j := by
        rcases List.mem_append.1 hc with h | h
        · exact h
        · simp only [List.mem_singleton] at h
          exact absurd (h.trans h48) hcne
      have hj : 0 < j := by
        rcases Nat.eq_zero_or_pos j with h | h
        · subst h; simp at hc2
        · exact h
      refine Ev.step (fun k => ?_) (by
        rw [List.take_succ_eq_append_getElem (show j < b.length by omega), h48, List.reverse_append]
        exact ih (by omega) ⟨c, hc2, hcne⟩)
      simp only [PNatO.bobbinref2_Text.l3]
      have e1 : wrap64 (((j + 1 : Nat) : Int) - 1) = (j : Int) := by rw [i64_id (by omega) (by omega)]; omega
      rw [if_pos (by omega), e1, if_pos (by omega), if_pos (by omega), hg, if_pos h48]
    · have e2 : (b.take (j + 1)).reverse.dropWhile (· == 48) = (b.take (j + 1)).reverse := by
        rw [List.take_succ_eq_append_getElem (show j < b.length by omega), List.reverse_append]
        simp [h48]
      rw [e2]
      refine Ev.step (fun k => ?_) (rtext_j4 b hb (j + 1) hn)
      simp only [PNatO.bobbinref2_Text.l3]
      by_cases h1 : 0 < j
      · have e1 : wrap64 (((j + 1 : Nat) : Int) - 1) = (j : Int) := by rw [i64_id (by omega) (by omega)]; omega
        rw [if_pos (by omega), e1, if_pos (by omega), if_pos (by omega), hg, if_neg h48]
      · rw [if_neg (by omega)]

theorem rtext_l0 (v : Nat) : ∀ (ml b : List Int), Num.valN ml = v → Num.okW ml → Num.normed ml → ml.length ≤ 1000000 → b.length + 9 * (Num.pcs v).length ≤ 90000000 → (∃ c ∈ b ++ (Num.pcs v).flatMap rev9, c ≠ 48) →
    Ev (fun k => PNatO.bobbinref2_Text.l0 k ml b) (strOfNums ((b ++ (Num.pcs v).flatMap rev9).reverse.dropWhile (· == 48))) := by
  induction v using Nat.strongRecOn with
  | _ v ih =>
    intro ml b hv hok hn hlen hb hex
    by_cases hm : ml = []
    · subst hm
      have hv0 : v = 0 := hv.symm
      subst hv0
      rw [Num.pcs_zero] at hex hb ⊢
      simp only [List.flatMap_nil, List.append_nil] at hex ⊢
      have key := rtext_l3 b (by simp at hb; omega) b.length (Nat.le_refl _) (by rw [List.take_length]; exact hex)
      rw [List.take_length] at key
      refine Ev.step (fun k => ?_) key
      simp only [PNatO.bobbinref2_Text.l0]
      rw [if_neg (by simp)]
    · have hpos : 0 < v := by
        rcases Nat.eq_zero_or_pos v with h | h
        · exact absurd (by rw [← hn]; exact (Num.valN_zero hok).1 (hv.trans h)) hm
        · exact h
      have hlp : 0 < ml.length := List.length_pos_iff.2 hm
      obtain ⟨e1, e2⟩ := Num.shq_val (d := 1000000000) (by decide) hok
      have e3 : Num.valN (Num.trimW (Num.shq 1000000000 ml).1) = v / 1000000000 := by rw [Num.trimW_val, e1, hv]; rfl
      have e4 : (Num.shq 1000000000 ml).2 = ((v % 1000000000 : Nat) : Int) := by rw [e2, hv]; rfl
      have hr := Num.shq_rest (d := 1000000000) (by decide) ml
      rw [Num.pcs_pos hpos] at hex hb ⊢
      simp only [List.flatMap_cons, List.length_cons] at hex hb ⊢
      rw [← e4] at hex ⊢
      rw [← List.append_assoc] at hex ⊢
      have hr9 : (rev9 (Num.shq 1000000000 ml).2).length = 9 := by simp [rev9]
      have key := ih (v / 1000000000) (Nat.div_lt_self hpos (by decide)) (Num.trimW (Num.shq 1000000000 ml).1) (b ++ rev9 (Num.shq 1000000000 ml).2) e3 (Num.okW_trim (Num.shq_ok (by decide) hok)) (Num.normed_trim _)
        (by have := Num.trimW_length_le (Num.shq 1000000000 ml).1; rw [Num.shq_length] at this; omega) (by rw [List.length_append, hr9]; omega) hex
      have h2 := rtext_l2 (Num.trimW (Num.shq 1000000000 ml).1) b (Num.shq 1000000000 ml).2 hr.1 hr.2 _ (by omega) key 9 0 (by omega)
      have h2' := h2
      simp only [List.range_zero, List.map_nil, List.append_nil, Int.pow_zero, Int.ediv_one] at h2'
      have h1 := rtext_l1 ml b hok hlen _ h2' ml.length ml 0 (Nat.le_refl _) rfl rfl (by simp [Num.shq]) (by simp [Num.shq])
      refine Ev.step (fun k => ?_) h1
      simp only [PNatO.bobbinref2_Text.l0]
      rw [if_pos (by omega), i64_id (by omega) (by omega)]

theorem pcs_ne (v : Nat) (h : 0 < v) : ∃ z ∈ Num.pcs v, 0 < z ∧ z < 1000000000 := by
  induction v using Nat.strongRecOn with
  | _ v ih =>
    rw [Num.pcs_pos h]
    by_cases h1 : v % 1000000000 = 0
    · obtain ⟨z, hz, h2⟩ := ih (v / 1000000000) (Nat.div_lt_self h (by decide)) (by omega)
      exact ⟨z, List.mem_cons_of_mem _ hz, h2⟩
    · exact ⟨_, List.mem_cons_self, by omega⟩
theorem rev9_ne (z : Int) (h0 : 0 < z) (h1 : z < 1000000000) : ∃ c ∈ rev9 z, c ≠ 48 := by
  apply Classical.byContradiction
  intro hn
  have key : ∀ t, t < 9 → z / 10 ^ t % 10 = 0 := by
    intro t ht
    apply Classical.byContradiction
    intro h
    exact hn ⟨48 + z / 10 ^ t % 10, List.mem_map.2 ⟨t, List.mem_range.2 ht, rfl⟩, by omega⟩
  have k0 := key 0 (by decide); have k1 := key 1 (by decide); have k2 := key 2 (by decide); have k3 := key 3 (by decide); have k4 := key 4 (by decide)
  have k5 := key 5 (by decide); have k6 := key 6 (by decide); have k7 := key 7 (by decide); have k8 := key 8 (by decide)
  simp only [Int.pow_zero, Int.reducePow] at k0 k1 k2 k3 k4 k5 k6 k7 k8
  omega

theorem dropWhile_map (l : List Int) (h : ∀ z ∈ l, 0 ≤ z ∧ z < 256) : (l.dropWhile (· == 48)).map (fun z => UInt8.ofNat z.toNat) = (l.map (fun z => UInt8.ofNat z.toNat)).dropWhile (· == 48) := by
  induction l with
  | nil => rfl
  | cons z zs ih =>
    have hz := h z List.mem_cons_self
    have ih := ih (fun x hx => h x (List.mem_cons_of_mem _ hx))
    by_cases e : z = 48
    · subst e
      simpa using ih
    · have e2 : ¬ UInt8.ofNat z.toNat = 48 := by
        intro h2
        have := congrArg UInt8.toNat h2
        rw [UInt8.toNat_ofNat_of_lt' (by simp [UInt8.size]; omega)] at this
        have h3 : (48 : UInt8).toNat = 48 := rfl
        omega
      simp [e, e2]

theorem ev_rtext (l : List Int) (hok : Num.okW l) (hlen : l.length ≤ 1000000) : Ev (fun k => bobbinref2_Text.f k l) ⟨(Num.textN (Num.valN l)).toArray⟩ := by
  unfold bobbinref2_Text.f PNatO.bobbinref2_Text.f
  refine Ev.bind (ev_onorm l (by omega)) ?_
  by_cases h0 : Num.valN l = 0
  · have e := (Num.valN_zero hok).1 h0
    rw [e, h0]
    exact Ev.now _
  · have hne : Num.trimW l ≠ [] := fun h => h0 ((Num.valN_zero hok).2 h)
    have hpos : ¬ ((Num.trimW l).length : Int) = 0 := by
      have := List.length_pos_iff.2 hne
      omega
    refine Ev.congr (f := fun k => PNatO.bobbinref2_Text.l0 k (Num.trimW l) []) (fun k => by rw [if_neg hpos]) ?_
    have hpl : (Num.pcs (Num.valN l)).length ≤ 2 * l.length := Num.pcs_len _ _ (by rw [Nat.pow_mul]; exact Num.valN_lt hok)
    obtain ⟨z, hz, hz0, hz1⟩ := pcs_ne (Num.valN l) (by omega)
    obtain ⟨c, hc, hc48⟩ := rev9_ne z hz0 hz1
    have key := rtext_l0 (Num.valN l) (Num.trimW l) [] (Num.trimW_val l) (Num.okW_trim hok) (Num.normed_trim l) (by have := Num.trimW_length_le l; omega) (by simp; omega) ⟨c, by simpa using ⟨z, hz, hc⟩, hc48⟩
    have e : strOfNums (([] ++ (Num.pcs (Num.valN l)).flatMap rev9).reverse.dropWhile (· == 48)) = ⟨(Num.textN (Num.valN l)).toArray⟩ := by
      unfold strOfNums Num.textN
      rw [if_neg h0, List.nil_append, dropWhile_map _ (by
        intro y hy
        rw [List.mem_reverse] at hy
        obtain ⟨z, _, hy⟩ := List.mem_flatMap.1 hy
        obtain ⟨t, _, rfl⟩ := List.mem_map.1 hy
        have h1 := Int.emod_nonneg (z / 10 ^ t) (show (10 : Int) ≠ 0 by decide)
        have h2 := Int.emod_lt_of_pos (z / 10 ^ t) (show (0 : Int) < 10 by decide)
        omega), List.reverse_flatMap, List.map_flatMap]
      congr 3
    rw [← e]
    exact key

theorem okW_all {l : List Int} (h : Num.okW l) : (l.all fun x => decide (0 ≤ x) && decide (x < 4294967296)) = true := by
  rw [List.all_eq_true]
  intro x hx
  have := h x hx
  simp only [Bool.and_eq_true, decide_eq_true_eq]
  exact this
theorem text_f {l : List Int} (h : Num.okW l) (hl : l.length ≤ 1000000) : nat_Text.f l = some ⟨(Num.textN (Num.valN l)).toArray⟩ := by
  unfold nat_Text.f
  rw [if_pos ⟨okW_all h, hl⟩]
theorem parseW_ok (L : List UInt8) : Num.okW (parseW L).1 := by
  unfold parseW
  split
  · exact Num.okW_nil
  · split
    · exact Num.okW_nil
    · split
      · exact Num.okW_nil
      · unfold fitsW
        split
        · exact Num.okW_nil
        · exact Num.okW_trim (Num.wordsN_ok _)
theorem parseW_len (L : List UInt8) : (parseW L).1.length ≤ 2000 := by
  unfold parseW
  split
  · exact Nat.zero_le _
  · split
    · exact Nat.zero_le _
    · split
      · exact Nat.zero_le _
      · unfold fitsW
        split
        · exact Nat.zero_le _
        · exact Nat.le_of_not_lt ‹_›
theorem words_two : Num.wordsN 4294967296 = [0, 1] := by
  rw [Num.wordsN_pos (by decide)]
  rw [show 4294967296 / 4294967296 = 1 from rfl, Num.wordsN_pos (by decide), show 1 / 4294967296 = 0 from rfl, Num.wordsN_zero]
  rfl
theorem parse_two : parseW [52, 50, 57, 52, 57, 54, 55, 50, 57, 54] = ([0, 1], 0) := by
  unfold parseW
  rw [if_neg (by decide), if_neg (by decide), if_neg (by decide), show Num.decL 0 [52, 50, 57, 52, 57, 54, 55, 50, 57, 54] = 4294967296 from by decide, words_two]
  rfl
theorem text_two : Num.textN 4294967296 = [52, 50, 57, 52, 57, 54, 55, 50, 57, 54] := by
  unfold Num.textN
  rw [if_neg (by decide), Num.pcs_pos (by decide), show 4294967296 / 1000000000 = 4 from rfl, Num.pcs_pos (by decide), show 4 / 1000000000 = 0 from rfl, Num.pcs_zero]
  decide
theorem ev_awake : Ev (fun k => bobbinlaw2_awake.f k) true := by
  unfold bobbinlaw2_awake.f
  have hp := ev_parse (⟨#[52, 50, 57, 52, 57, 54, 55, 50, 57, 54]⟩ : ByteArray) (by decide)
  rw [show parseW (⟨#[52, 50, 57, 52, 57, 54, 55, 50, 57, 54]⟩ : ByteArray).data.toList = ([0, 1], 0) from parse_two] at hp
  refine Ev.bind hp ?_
  simp only [if_true]
  refine Ev.bind (ev_same_self [0, 1] (by decide)) ?_
  simp only [if_true]
  refine Ev.congr (f := fun _ => some true) (fun k => ?_) (Ev.now _)
  rw [text_f (by intro x hx; simp at hx; omega) (by decide), show Num.valN [0, 1] = 4294967296 from by decide, text_two]
  rw [Option.bind_some, Lib.toList_data]
  rfl
theorem reads_ev (a0 : ByteArray) (h : a0.size ≤ 2600) : Ev (fun k => bobbinlaw2_NatReads.f k a0) true := by
  unfold bobbinlaw2_NatReads.f
  have hn : ¬ ((a0.size : Int) > 2600) := by omega
  simp only [if_neg hn]
  refine Ev.bind (ev_parse a0 (by omega)) ?_
  refine Ev.bind (ev_rparse a0 (by omega)) ?_
  have hok := parseW_ok a0.data.toList
  have hl := parseW_len a0.data.toList
  generalize parseW a0.data.toList = p at hok hl
  refine Ev.bind (ev_same_self p.1 (by omega)) ?_
  simp only [if_true]
  by_cases h0 : p.2 = 0
  · simp only [if_pos h0]
    simp only [text_f hok (show p.1.length ≤ 1000000 by omega), Option.bind_some]
    refine Ev.bind (ev_rtext p.1 hok (by omega)) ?_
    simp only [if_true]
    exact Ev.bind ev_awake (Ev.now _)
  · simp only [if_neg h0]
    exact Ev.bind ev_awake (Ev.now _)
theorem natReads_pure : bobbinlaw2_NatReads.Pure := by
  intro a0 _
  have key : Ev (fun k => bobbinlaw2_NatReads.f k a0) true := by
    by_cases h : a0.size ≤ 2600
    · exact reads_ev a0 h
    · unfold bobbinlaw2_NatReads.f
      simp only [if_pos (show (a0.size : Int) > 2600 by omega)]
      exact Ev.bind ev_awake (Ev.now true)
  obtain ⟨K, h⟩ := key
  exact ⟨K, h K (Nat.le_refl _)⟩

end Go.Proofs.YtkihjfpfocnneaaDoor.Pure

/- Numbers of many words, in plain lists, second part: orders, digits in twos. No program in sight. -/
namespace Go.Num

theorem val_take_succ (l : List Int) (i : Nat) (h : i < l.length) : valN (l.take (i + 1)) = valN (l.take i) + 4294967296 ^ i * (l.getD i 0).toNat := by
  rw [List.take_succ_eq_append_getElem h, valN_append, List.length_take, Nat.min_eq_left (by omega)]
  simp only [valN, Nat.mul_zero, Nat.add_zero]
  rw [List.getD_eq_getElem?_getD, List.getElem?_eq_getElem h]
  rfl
theorem val_pos {l : List Int} (h : okW l) (hn : normed l) (h0 : l ≠ []) : 0 < valN l := by
  rcases Nat.eq_zero_or_pos (valN l) with h1 | h1
  · exact absurd (hn.symm.trans ((valN_zero h).1 h1)) h0
  · exact h1
theorem normed_tail {x : Int} {l : List Int} (h : normed (x :: l)) : normed l := by
  unfold normed at h ⊢
  rw [trimW_cons] at h
  by_cases e : trimW l = []
  · rw [if_pos e] at h
    by_cases hx : x = 0
    · rw [if_pos hx] at h; exact absurd h (by simp)
    · rw [if_neg hx] at h
      have : l = [] := by simpa using h.symm
      rw [this]; rfl
  · rw [if_neg e] at h
    exact (List.cons.inj h).2
theorem val_ge {l : List Int} (h : okW l) (hn : normed l) : ∀ n, l.length = n + 1 → 4294967296 ^ n ≤ valN l := by
  induction l with
  | nil => intro n e; simp at e
  | cons x xs ih =>
    intro n e
    cases n with
    | zero =>
      have := val_pos h hn (by simp)
      rw [Nat.pow_zero]
      omega
    | succ n =>
      have h1 := ih (okW_cons.1 h).2 (normed_tail hn) n (by simpa using e)
      simp only [valN, Nat.pow_succ]
      omega
theorem lt_of_len {a b : List Int} (ha : okW a) (hb : okW b) (nb : normed b) (h : a.length < b.length) : valN a < valN b := by
  obtain ⟨n, hn⟩ : ∃ n, b.length = n + 1 := ⟨b.length - 1, by omega⟩
  have h1 := val_ge hb nb n hn
  have h2 := valN_lt ha
  have h3 : 4294967296 ^ a.length ≤ 4294967296 ^ n := Nat.pow_le_pow_right (by decide) (by omega)
  omega
/-- the order of two numbers -/
def cmpN (a b : Nat) : Int := if a < b then -1 else if b < a then 1 else 0
theorem cmpN_lt {a b : Nat} (h : a < b) : cmpN a b = -1 := by unfold cmpN; rw [if_pos h]
theorem cmpN_gt {a b : Nat} (h : b < a) : cmpN a b = 1 := by unfold cmpN; rw [if_neg (by omega), if_pos h]
theorem cmpN_eq {a b : Nat} (h : a = b) : cmpN a b = 0 := by unfold cmpN; rw [if_neg (by omega), if_neg (by omega)]
theorem cmpN_neg {a b : Nat} : cmpN a b < 0 ↔ a < b := by
  unfold cmpN
  by_cases h : a < b
  · rw [if_pos h]; simp [h]
  · rw [if_neg h]
    by_cases h2 : b < a
    · rw [if_pos h2]; simp [h]
    · rw [if_neg h2]; simp [h]

/-- how many digits in twos -/
def bitsN (v : Nat) : Nat := if v = 0 then 0 else Nat.log2 v + 1
theorem bitsN_zero : bitsN 0 = 0 := rfl
theorem bitsN_pos {v : Nat} (h : 0 < v) : 0 < bitsN v := by unfold bitsN; rw [if_neg (by omega)]; omega
theorem bitsN_lt (v : Nat) : v < 2 ^ bitsN v := by
  unfold bitsN
  by_cases h : v = 0
  · rw [if_pos h, h]; decide
  · rw [if_neg h]; exact Nat.lt_log2_self
theorem bitsN_le {v : Nat} (h : 0 < v) : 2 ^ (bitsN v - 1) ≤ v := by
  unfold bitsN
  rw [if_neg (by omega), Nat.add_sub_cancel]
  exact Nat.log2_self_le (by omega)
theorem bitsN_eq {v n : Nat} (h0 : 2 ^ n ≤ v) (h1 : v < 2 ^ (n + 1)) : bitsN v = n + 1 := by
  have hv : 0 < v := Nat.lt_of_lt_of_le (Nat.two_pow_pos n) h0
  have a := bitsN_lt v
  have b := bitsN_le hv
  have c := bitsN_pos hv
  have d : n < bitsN v := by
    rcases Nat.lt_or_ge n (bitsN v) with h | h
    · exact h
    · have : 2 ^ bitsN v ≤ 2 ^ n := Nat.pow_le_pow_right (by decide) h
      omega
  have e : bitsN v - 1 < n + 1 := by
    rcases Nat.lt_or_ge (bitsN v - 1) (n + 1) with h | h
    · exact h
    · have : 2 ^ (n + 1) ≤ 2 ^ (bitsN v - 1) := Nat.pow_le_pow_right (by decide) h
      omega
  omega
theorem bitsN_mul {v : Nat} (h : 0 < v) (k r : Nat) (hr : r < 2 ^ k) : bitsN (v * 2 ^ k + r) = bitsN v + k := by
  obtain ⟨n, hn⟩ : ∃ n, bitsN v = n + 1 := ⟨bitsN v - 1, by have := bitsN_pos h; omega⟩
  have a := bitsN_lt v
  have b := bitsN_le h
  rw [hn] at a b ⊢
  rw [Nat.add_sub_cancel] at b
  rw [show n + 1 + k = (n + k) + 1 by omega]
  refine bitsN_eq ?_ ?_
  · rw [Nat.pow_add]
    exact Nat.le_trans (Nat.mul_le_mul_right _ b) (Nat.le_add_right _ _)
  · rw [show n + k + 1 = (n + 1) + k by omega, Nat.pow_add]
    have : (v + 1) * 2 ^ k ≤ 2 ^ (n + 1) * 2 ^ k := Nat.mul_le_mul_right _ a
    rw [Nat.add_mul, Nat.one_mul] at this
    omega
theorem bitsN_mono {a b : Nat} (h : a ≤ b) : bitsN a ≤ bitsN b := by
  rcases Nat.eq_zero_or_pos a with h0 | h0
  · rw [h0]; exact Nat.zero_le _
  · have h1 := bitsN_le h0
    have h2 := bitsN_lt b
    rcases Nat.lt_or_ge (bitsN b) (bitsN a) with h3 | h3
    · have : 2 ^ bitsN b ≤ 2 ^ (bitsN a - 1) := Nat.pow_le_pow_right (by decide) (by omega)
      omega
    · exact h3
theorem bitLen_bitsN {x : Nat} (h : x < 18446744073709551616) : Lib.bitLen x = bitsN x := by
  rcases Nat.eq_zero_or_pos x with h0 | h0
  · rw [h0]; rfl
  · obtain ⟨a, b, c⟩ := Lib.bitLenAux_bounds 64 x (by simpa using h) (by omega)
    unfold Lib.bitLen
    obtain ⟨n, hn⟩ : ∃ n, Lib.bitLenAux 64 x = n + 1 := ⟨Lib.bitLenAux 64 x - 1, by omega⟩
    rw [hn] at b c ⊢
    exact (bitsN_eq b c).symm
/-- the digits of words: those of the last one, and 32 for each below -/
theorem bitsN_words {l : List Int} (hok : okW l) (hn : normed l) : ∀ n, l.length = n + 1 → bitsN (valN l) = 32 * n + bitsN (l.getD n 0).toNat := by
  induction l with
  | nil => intro n e; simp at e
  | cons x xs ih =>
    intro n e
    cases n with
    | zero =>
      have : xs = [] := by simpa using e
      subst this
      simp [valN]
    | succ n =>
      have h1 := ih (okW_cons.1 hok).2 (normed_tail hn) n (by simpa using e)
      have h2 : 0 < valN xs := val_pos (okW_cons.1 hok).2 (normed_tail hn) (by intro h; rw [h] at e; simp at e)
      have h3 := (okW_cons.1 hok).1
      have h4 : valN (x :: xs) = valN xs * 2 ^ 32 + x.toNat := by simp only [valN]; omega
      rw [h4, bitsN_mul h2 32 _ (by omega), h1, List.getD_cons_succ]
      omega
theorem getD_snoc_zero (l : List Int) (n : Nat) : l.getD n 0 = 0 ∨ n < l.length := by
  rcases Nat.lt_or_ge n l.length with h | h
  · exact .inr h
  · left; rw [List.getD_eq_getElem?_getD, List.getElem?_eq_none h]; rfl
theorem take_all_val {l : List Int} {n : Nat} (h : l.length ≤ n) : valN (l.take n) = valN l := by rw [List.take_of_length_le h]
theorem val_take_le (l : List Int) (n : Nat) : valN (l.take n) ≤ valN l := by
  have : valN l = valN (l.take n ++ l.drop n) := by rw [List.take_append_drop]
  rw [this, valN_append]
  omega
/-- one word more, whether there is one or not -/
theorem val_take_next (l : List Int) (i : Nat) : valN (l.take (i + 1)) = valN (l.take i) + 4294967296 ^ i * (l.getD i 0).toNat := by
  rcases Nat.lt_or_ge i l.length with h | h
  · exact val_take_succ l i h
  · rw [List.take_of_length_le (by omega), List.take_of_length_le h, List.getD_eq_getElem?_getD, List.getElem?_eq_none h]
    simp
theorem okW_snoc {l : List Int} {x : Int} (h : okW l) (h0 : 0 ≤ x) (h1 : x < 4294967296) : okW (l ++ [x]) := okW_append.2 ⟨h, okW_cons.2 ⟨⟨h0, h1⟩, okW_nil⟩⟩
theorem val_snoc (l : List Int) (x : Int) : valN (l ++ [x]) = valN l + 4294967296 ^ l.length * x.toNat := by rw [valN_append]; simp [valN]
theorem wordsN_len {v n : Nat} (h : v < 4294967296 ^ n) : (wordsN v).length ≤ n := by
  rcases Nat.lt_or_ge n (wordsN v).length with c | c
  · obtain ⟨m, hm⟩ : ∃ m, (wordsN v).length = m + 1 := ⟨(wordsN v).length - 1, by omega⟩
    have h1 := val_ge (wordsN_ok v) (wordsN_normed v) m hm
    rw [wordsN_val] at h1
    have h2 : 4294967296 ^ n ≤ 4294967296 ^ m := Nat.pow_le_pow_right (by decide) (by omega)
    omega
  · exact c
theorem wordsN_len_ge {v n : Nat} (h : 4294967296 ^ n ≤ v) : n < (wordsN v).length := by
  rcases Nat.lt_or_ge n (wordsN v).length with c | c
  · exact c
  · have h1 := valN_lt (wordsN_ok v)
    rw [wordsN_val] at h1
    have h2 : 4294967296 ^ (wordsN v).length ≤ 4294967296 ^ n := Nat.pow_le_pow_right (by decide) c
    omega
theorem wordsN_of {l : List Int} (h : okW l) (n : normed l) : wordsN (valN l) = l := by rw [← trim_words h]; exact n
end Go.Num

/- Sums, differences, orders and digits: what nat and the reference compute, as numbers. -/
namespace Go.Proofs.YtkihjfpfocnneaaDoor.Pure
open Go.RowKit Go.Proofs.YtkihjfpfocnneaaDoor.PNat Go.Proofs.YtkihjfpfocnneaaDoorW.PrintWords Go.Proofs.YtkihjfpfocnneaaDoorW.PrintLast Go.Proofs.YtkihjfpfocnneaaDoorW.PrintMore
set_option linter.unusedVariables false
set_option linter.unusedSimpArgs false
theorem rd_toNat (l : List Int) (i : Nat) : (rd l (i : Int)).toNat = (l.getD i 0).toNat := by unfold rd; rw [Int.toNat_natCast]
theorem rd_getD (l : List Int) (i : Nat) : rd l (i : Int) = l.getD i 0 := by unfold rd; rw [Int.toNat_natCast]
theorem rd_ok {l : List Int} (h : Num.okW l) (i : Nat) : 0 ≤ rd l (i : Int) ∧ rd l (i : Int) < 4294967296 := by rw [rd_getD]; exact Num.okW_get h i

/-! ### the order -/
theorem cmp_step {a b : List Int} (ha : Num.okW a) (hb : Num.okW b) (n : Nat) :
    (rd a (n : Int) < rd b (n : Int) → Num.cmpN (Num.valN (a.take (n + 1))) (Num.valN (b.take (n + 1))) = -1) ∧
    (rd b (n : Int) < rd a (n : Int) → Num.cmpN (Num.valN (a.take (n + 1))) (Num.valN (b.take (n + 1))) = 1) ∧
    (rd a (n : Int) = rd b (n : Int) → Num.cmpN (Num.valN (a.take (n + 1))) (Num.valN (b.take (n + 1))) = Num.cmpN (Num.valN (a.take n)) (Num.valN (b.take n))) := by
  have oa := rd_ok ha n
  have ob := rd_ok hb n
  have la : Num.valN (a.take n) < 4294967296 ^ n := Nat.lt_of_lt_of_le (Num.valN_lt (Num.okW_take ha n)) (Nat.pow_le_pow_right (by decide) (List.length_take_le _ _))
  have lb : Num.valN (b.take n) < 4294967296 ^ n := Nat.lt_of_lt_of_le (Num.valN_lt (Num.okW_take hb n)) (Nat.pow_le_pow_right (by decide) (List.length_take_le _ _))
  rw [Num.val_take_next, Num.val_take_next, ← rd_toNat, ← rd_toNat]
  generalize Num.valN (a.take n) = va at *
  generalize Num.valN (b.take n) = vb at *
  generalize (4294967296 : Nat) ^ n = P at *
  obtain ⟨x, hx⟩ := Int.eq_ofNat_of_zero_le oa.1
  obtain ⟨y, hy⟩ := Int.eq_ofNat_of_zero_le ob.1
  rw [hx, hy]
  simp only [Int.toNat_natCast]
  refine ⟨fun h => Num.cmpN_lt ?_, fun h => Num.cmpN_gt ?_, fun h => ?_⟩
  · have : P * (x + 1) ≤ P * y := Nat.mul_le_mul_left _ (by omega)
    rw [Nat.mul_add] at this
    omega
  · have : P * (y + 1) ≤ P * x := Nat.mul_le_mul_left _ (by omega)
    rw [Nat.mul_add] at this
    omega
  · have : x = y := by omega
    subst this
    unfold Num.cmpN
    by_cases h1 : va < vb
    · rw [if_pos h1, if_pos (by omega)]
    · rw [if_neg h1, if_neg (by omega)]
      by_cases h2 : vb < va
      · rw [if_pos h2, if_pos (by omega)]
      · rw [if_neg h2, if_neg (by omega)]
theorem cmp_l0 {a b : List Int} (ha : Num.okW a) (hb : Num.okW b) (hl : a.length ≤ 1000000000) : ∀ n : Nat, n ≤ a.length → n ≤ b.length →
    Ev (fun k => nat_Compare.l0 k a b ((n : Int) - 1)) (Num.cmpN (Num.valN (a.take n)) (Num.valN (b.take n))) := by
  intro n
  induction n with
  | zero =>
    intro _ _
    refine Ev.step (f := fun _ => some 0) (fun k => ?_) ?_
    · simp only [nat_Compare.l0]
      rw [if_neg (by omega)]
    · rw [List.take_zero, List.take_zero]
      exact Ev.now _
  | succ n ih =>
    intro h1 h2
    obtain ⟨s1, s2, s3⟩ := cmp_step ha hb n
    have e : ((n + 1 : Nat) : Int) - 1 = (n : Int) := by omega
    rw [e]
    by_cases c1 : rd a (n : Int) < rd b (n : Int)
    · rw [s1 c1]
      refine Ev.step (f := fun _ => some (-1)) (fun k => ?_) (Ev.now _)
      simp only [nat_Compare.l0]
      rw [if_pos (by omega), if_pos (by omega), if_pos (by omega), if_pos (by omega), if_pos c1]
    · by_cases c2 : rd b (n : Int) < rd a (n : Int)
      · rw [s2 c2]
        refine Ev.step (f := fun _ => some 1) (fun k => ?_) (Ev.now _)
        simp only [nat_Compare.l0]
        rw [if_pos (by omega), if_pos (by omega), if_pos (by omega), if_pos (by omega), if_neg c1, if_pos c2]
      · rw [s3 (by omega)]
        refine Ev.step (fun k => ?_) (ih (by omega) (by omega))
        simp only [nat_Compare.l0]
        rw [if_pos (by omega), if_pos (by omega), if_pos (by omega), if_pos (by omega), if_neg c1, if_neg c2, i64_id (by omega) (by omega)]
theorem rcmp_l0 {a b : List Int} (ha : Num.okW a) (hb : Num.okW b) (hl : a.length ≤ 1000000000) : ∀ n : Nat, n ≤ a.length → n ≤ b.length →
    Ev (fun k => bobbinref2_Compare.l0 k a b ((n : Int) - 1)) (Num.cmpN (Num.valN (a.take n)) (Num.valN (b.take n))) := by
  intro n
  induction n with
  | zero =>
    intro _ _
    refine Ev.step (f := fun _ => some 0) (fun k => ?_) ?_
    · simp only [bobbinref2_Compare.l0]
      rw [if_neg (by omega)]
    · rw [List.take_zero, List.take_zero]
      exact Ev.now _
  | succ n ih =>
    intro h1 h2
    obtain ⟨s1, s2, s3⟩ := cmp_step ha hb n
    have e : ((n + 1 : Nat) : Int) - 1 = (n : Int) := by omega
    rw [e]
    by_cases c0 : rd a (n : Int) = rd b (n : Int)
    · rw [s3 c0]
      refine Ev.step (fun k => ?_) (ih (by omega) (by omega))
      simp only [bobbinref2_Compare.l0]
      rw [if_pos (by omega), if_pos (by omega), if_pos (by omega), if_pos (by omega), if_pos c0, i64_id (by omega) (by omega)]
    · by_cases c1 : rd a (n : Int) < rd b (n : Int)
      · rw [s1 c1]
        refine Ev.step (f := fun _ => some (-1)) (fun k => ?_) (Ev.now _)
        simp only [bobbinref2_Compare.l0]
        rw [if_pos (by omega), if_pos (by omega), if_pos (by omega), if_pos (by omega), if_neg c0, if_pos c1]
      · rw [s2 (by omega)]
        refine Ev.step (f := fun _ => some 1) (fun k => ?_) (Ev.now _)
        simp only [bobbinref2_Compare.l0]
        rw [if_pos (by omega), if_pos (by omega), if_pos (by omega), if_pos (by omega), if_neg c0, if_neg c1]
theorem ev_cmp (l0 l1 : List Int) (o0 : Num.okW l0) (o1 : Num.okW l1) (h0 : l0.length ≤ 1000000000) (h1 : l1.length ≤ 1000000000) : Ev (fun k => nat_Compare.f k l0 l1) (Num.cmpN (Num.valN l0) (Num.valN l1)) := by
  unfold nat_Compare.f
  refine Ev.bind (ev_trim l0 h0) (Ev.bind (ev_trim l1 h1) ?_)
  have b0 := Num.trimW_length_le l0
  rw [← Num.trimW_val l0, ← Num.trimW_val l1]
  by_cases c : (Num.trimW l0).length = (Num.trimW l1).length
  · refine Ev.congr (fun k => by rw [if_pos (by omega), i64_id (by omega) (by omega)]) ?_
    have := cmp_l0 (Num.okW_trim o0) (Num.okW_trim o1) (by omega) (Num.trimW l0).length (Nat.le_refl _) (by omega)
    rw [List.take_length, c, List.take_length, ← c] at this
    exact this
  · by_cases c2 : (Num.trimW l0).length < (Num.trimW l1).length
    · refine Ev.congr (fun k => by rw [if_neg (by omega), if_pos (by omega)]) ?_
      rw [Num.cmpN_lt (Num.lt_of_len (Num.okW_trim o0) (Num.okW_trim o1) (Num.normed_trim l1) c2)]
      exact Ev.now _
    · refine Ev.congr (fun k => by rw [if_neg (by omega), if_neg (by omega)]) ?_
      rw [Num.cmpN_gt (Num.lt_of_len (Num.okW_trim o1) (Num.okW_trim o0) (Num.normed_trim l0) (by omega))]
      exact Ev.now _
theorem ev_rcmp (l0 l1 : List Int) (o0 : Num.okW l0) (o1 : Num.okW l1) (h0 : l0.length ≤ 1000000000) (h1 : l1.length ≤ 1000000000) : Ev (fun k => bobbinref2_Compare.f k l0 l1) (Num.cmpN (Num.valN l0) (Num.valN l1)) := by
  unfold bobbinref2_Compare.f
  refine Ev.bind (ev_rtrim l0 h0) (Ev.bind (ev_rtrim l1 h1) ?_)
  have b0 := Num.trimW_length_le l0
  rw [← Num.trimW_val l0, ← Num.trimW_val l1]
  by_cases c : (Num.trimW l0).length = (Num.trimW l1).length
  · refine Ev.congr (fun k => by rw [if_pos (by omega), i64_id (by omega) (by omega)]) ?_
    have := rcmp_l0 (Num.okW_trim o0) (Num.okW_trim o1) (by omega) (Num.trimW l0).length (Nat.le_refl _) (by omega)
    rw [List.take_length, c, List.take_length, ← c] at this
    exact this
  · by_cases c2 : (Num.trimW l0).length < (Num.trimW l1).length
    · refine Ev.congr (fun k => by rw [if_neg (by omega), if_pos (by omega)]) ?_
      rw [Num.cmpN_lt (Num.lt_of_len (Num.okW_trim o0) (Num.okW_trim o1) (Num.normed_trim l1) c2)]
      exact Ev.now _
    · refine Ev.congr (fun k => by rw [if_neg (by omega), if_neg (by omega)]) ?_
      rw [Num.cmpN_gt (Num.lt_of_len (Num.okW_trim o1) (Num.okW_trim o0) (Num.normed_trim l0) (by omega))]
      exact Ev.now _

/-! ### digits -/
theorem ev_bits (l : List Int) (ok : Num.okW l) (hl : l.length ≤ 100000000) : Ev (fun k => nat_Bits.f k l) ((Num.bitsN (Num.valN l) : Nat) : Int) := by
  unfold nat_Bits.f
  refine Ev.bind (ev_trim l (by omega)) ?_
  have b0 := Num.trimW_length_le l
  have ht := Num.okW_trim ok
  rw [← Num.trimW_val l]
  have hn := Num.normed_trim l
  generalize Num.trimW l = t at b0 ht hn ⊢
  cases hm : t.length with
  | zero =>
    have : t = [] := List.length_eq_zero_iff.1 hm
    subst this
    refine Ev.congr (f := fun _ => some 0) (fun k => by rw [if_pos (by simp)]) (Ev.now _)
  | succ n =>
    have e : wrap64 (((n + 1 : Nat) : Int) - 1) = (n : Int) := by rw [i64_id (by omega) (by omega)]; omega
    have o := rd_ok ht n
    rw [Num.bitsN_words ht hn n hm]
    have e2 : (rd t (n : Int)).toNat = (t.getD n 0).toNat := rd_toNat t n
    refine Ev.congr (f := fun _ => some (((32 * n + Num.bitsN (t.getD n 0).toNat : Nat) : Int))) (fun k => ?_) (Ev.now _)
    rw [if_neg (by omega), e, if_pos (by omega), if_pos (by omega)]
    simp only [bits_Len32.f]
    rw [if_pos (by omega), Option.bind_some, e2, Num.bitLen_bitsN (by omega)]
    have e3 : Num.bitsN (t.getD n 0).toNat ≤ 32 := by
      have h1 := Num.bitsN_mono (show (t.getD n 0).toNat ≤ 4294967295 by omega)
      have h2 : Num.bitsN 4294967295 = 32 := Num.bitsN_eq (by decide) (by decide)
      omega
    rw [i64_id (x := (n : Int) * 32) (by omega) (by omega), i64_id (by omega) (by omega)]
    congr 1
    omega
theorem rbits_l0 (d : Nat) : ∀ (x s : Nat), Num.bitsN x = d → s + d ≤ 100000000000 → x < 4294967296 → Ev (fun k => bobbinref2_Bits.l0 k (s : Int) (x : Int)) ((s + d : Nat) : Int) := by
  induction d with
  | zero =>
    intro x s hx hs _
    have h0 : x = 0 := by
      rcases Nat.eq_zero_or_pos x with h | h
      · exact h
      · have := Num.bitsN_pos h; omega
    subst h0
    refine Ev.step (f := fun _ => some (s : Int)) (fun k => ?_) (Ev.now _)
    simp only [bobbinref2_Bits.l0]
    rw [if_neg (by omega)]
  | succ d ih =>
    intro x s hx hs hlt
    have h0 : 0 < x := by
      rcases Nat.eq_zero_or_pos x with h | h
      · rw [h, Num.bitsN_zero] at hx; omega
      · exact h
    have h1 : Num.bitsN (x / 2) = d := by
      rcases Nat.eq_zero_or_pos (x / 2) with h | h
      · have : x = 1 := by omega
        rw [this] at hx
        have h2 : Num.bitsN 1 = 1 := Num.bitsN_eq (n := 0) (by decide) (by decide)
        rw [h2] at hx
        rw [h, Num.bitsN_zero]; omega
      · have h3 := Num.bitsN_mul h 1 (x % 2) (by omega)
        rw [show x / 2 * 2 ^ 1 + x % 2 = x by rw [Nat.pow_one]; omega] at h3
        omega
    have h2 := ih (x / 2) (s + 1) h1 (by omega) (by omega)
    rw [show s + (d + 1) = s + 1 + d by omega]
    refine Ev.step (fun k => ?_) h2
    simp only [bobbinref2_Bits.l0]
    rw [if_pos (by omega), i64_id (by omega) (by omega)]
    rfl
theorem ev_rbits (l : List Int) (ok : Num.okW l) (hl : l.length ≤ 100000000) : Ev (fun k => bobbinref2_Bits.f k l) ((Num.bitsN (Num.valN l) : Nat) : Int) := by
  unfold bobbinref2_Bits.f
  refine Ev.bind (ev_rtrim l (by omega)) ?_
  have b0 := Num.trimW_length_le l
  have ht := Num.okW_trim ok
  rw [← Num.trimW_val l]
  have hn := Num.normed_trim l
  generalize Num.trimW l = t at b0 ht hn ⊢
  cases hm : t.length with
  | zero =>
    have : t = [] := List.length_eq_zero_iff.1 hm
    subst this
    refine Ev.congr (f := fun _ => some 0) (fun k => by rw [if_pos (by simp)]) (Ev.now _)
  | succ n =>
    have e : wrap64 (((n + 1 : Nat) : Int) - 1) = (n : Int) := by rw [i64_id (by omega) (by omega)]; omega
    have o := rd_ok ht n
    rw [Num.bitsN_words ht hn n hm]
    have e2 : (rd t (n : Int)).toNat = (t.getD n 0).toNat := rd_toNat t n
    have e4 : rd t (n : Int) = (((t.getD n 0).toNat : Nat) : Int) := by omega
    refine Ev.congr (fun k => ?_) (rbits_l0 _ (t.getD n 0).toNat (32 * n) rfl (by have h1 := Num.bitsN_mono (show (t.getD n 0).toNat ≤ 4294967295 by omega); have h2 : Num.bitsN 4294967295 = 32 := Num.bitsN_eq (by decide) (by decide); omega) (by omega))
    rw [if_neg (by omega), e, if_pos (by omega), if_pos (by omega), i64_id (x := 32 * (n : Int)) (by omega) (by omega), e4]
    rfl

theorem u64_mod (z : Int) : IntKind.u64.wrap z = z % 18446744073709551616 := by
  show _ % 18446744073709551616 = _
  rfl
theorem add32 {x y c : Int} (hx : 0 ≤ x ∧ x < 4294967296) (hy : 0 ≤ y ∧ y < 4294967296) (hc : 0 ≤ c ∧ c ≤ 1) : bits_Add32.f x y c = some ((x + y + c) % 4294967296, (x + y + c) / 4294967296) := by
  unfold bits_Add32.f
  simp only [u64_mod]
  congr 2
  · omega
  · omega
theorem top_bit (a : Nat) (h : a < 4294967296) : a / 2147483648 = (a.testBit 31).toNat := by
  rw [Nat.testBit_eq_decide_div_mod_eq]
  have : a / 2 ^ 31 < 2 := by omega
  by_cases h1 : a / 2 ^ 31 % 2 = 1
  · simp only [h1, decide_true, Bool.toNat_true]; omega
  · simp only [h1, decide_false, Bool.toNat_false]; omega
theorem sub32 {x y c : Int} (hx : 0 ≤ x ∧ x < 4294967296) (hy : 0 ≤ y ∧ y < 4294967296) (hc : 0 ≤ c ∧ c ≤ 1) : bits_Sub32.f x y c = some ((x - y - c) % 4294967296, if x < y + c then 1 else 0) := by
  unfold bits_Sub32.f
  have hd : (((x - y) % 4294967296) - c) % 4294967296 = (x - y - c) % 4294967296 := by omega
  rw [hd]
  have hd0 : 0 ≤ (x - y - c) % 4294967296 ∧ (x - y - c) % 4294967296 < 4294967296 := by omega
  have hdv : (x - y - c) % 4294967296 = x - y - c ∨ (x - y - c) % 4294967296 = x - y - c + 4294967296 := by omega
  generalize (x - y - c) % 4294967296 = d at hd0 hdv ⊢
  obtain ⟨X, rfl⟩ := Int.eq_ofNat_of_zero_le hx.1
  obtain ⟨Y, rfl⟩ := Int.eq_ofNat_of_zero_le hy.1
  obtain ⟨D, rfl⟩ := Int.eq_ofNat_of_zero_le hd0.1
  have hX : X < 4294967296 := by omega
  have hY : Y < 4294967296 := by omega
  have hD : D < 4294967296 := by omega
  have hm : IntKind.u32.max = ((4294967295 : Nat) : Int) := by decide
  have hM : (4294967295 : Nat) < 4294967296 := by decide
  have l1 : 4294967295 ^^^ X < 4294967296 := Nat.xor_lt_two_pow (n := 32) (by omega) (by omega)
  have l2 : X ^^^ Y < 4294967296 := Nat.xor_lt_two_pow (n := 32) (by omega) (by omega)
  have l3 : 4294967295 ^^^ (X ^^^ Y) < 4294967296 := Nat.xor_lt_two_pow (n := 32) (by omega) (by omega)
  have l4 : (4294967295 ^^^ X) &&& Y < 4294967296 := Nat.and_lt_two_pow (n := 32) _ (by omega)
  have l5 : (4294967295 ^^^ (X ^^^ Y)) &&& D < 4294967296 := Nat.and_lt_two_pow (n := 32) _ (by omega)
  have l6 : ((4294967295 ^^^ X) &&& Y) ||| ((4294967295 ^^^ (X ^^^ Y)) &&& D) < 4294967296 := Nat.or_lt_two_pow (n := 32) (by omega) (by omega)
  rw [hm, u32_xor_nat _ _ hM hX, u32_and_nat _ _ l1 hY, u32_xor_nat _ _ hX hY, u32_xor_nat _ _ hM l2, u32_and_nat _ _ l3 hD, u32_or_nat _ _ l4 l5]
  have e : ((((4294967295 ^^^ X) &&& Y) ||| ((4294967295 ^^^ (X ^^^ Y)) &&& D) : Nat) : Int) / 2147483648 = ((((4294967295 ^^^ X) &&& Y) ||| ((4294967295 ^^^ (X ^^^ Y)) &&& D)) / 2147483648 : Nat) := by omega
  rw [e, top_bit _ l6]
  simp only [Nat.testBit_or, Nat.testBit_and, Nat.testBit_xor]
  have tm : Nat.testBit 4294967295 31 = true := by decide
  have tX := top_bit X hX
  have tY := top_bit Y hY
  have tD := top_bit D hD
  rw [tm]
  congr 2
  generalize X.testBit 31 = p at *
  generalize Y.testBit 31 = q at *
  generalize D.testBit 31 = s at *
  cases p <;> cases q <;> cases s <;> simp only [Bool.toNat_true, Bool.toNat_false, Bool.true_xor, Bool.false_xor, Bool.xor_true, Bool.xor_false, Bool.not_true, Bool.not_false, Bool.and_true, Bool.and_false, Bool.or_true, Bool.or_false, Bool.true_and, Bool.false_and, Bool.true_or, Bool.false_or] at tX tY tD ⊢ <;> split <;> first | rfl | (exfalso; omega)
theorem set_next (l : List Int) (n : Nat) (v : Int) : (l ++ List.replicate (n + 1) 0).set l.length v = (l ++ [v]) ++ List.replicate n 0 := by
  rw [List.set_append_right _ _ (Nat.le_refl _), Nat.sub_self, List.replicate_succ, List.set_cons_zero]
  simp
theorem carry_step {P vd va vb x y c : Nat} (h : vd + P * c = va + vb) : vd + P * ((x + y + c) % 4294967296) + P * 4294967296 * ((x + y + c) / 4294967296) = (va + P * x) + (vb + P * y) := by
  have e : P * ((x + y + c) % 4294967296) + P * 4294967296 * ((x + y + c) / 4294967296) = P * (x + y + c) := by
    rw [Nat.mul_assoc, ← Nat.mul_add, Nat.mod_add_div]
  rw [Nat.mul_add, Nat.mul_add] at e
  omega
theorem borrow_step {P vd va vb x y c v c' : Nat} (h : va + P * c = vd + vb) (e : x + 4294967296 * c' = v + y + c) : (va + P * x) + P * 4294967296 * c' = (vd + P * v) + (vb + P * y) := by
  have e2 : P * (x + 4294967296 * c') = P * (v + y + c) := by rw [e]
  rw [Nat.mul_add, Nat.mul_add, Nat.mul_add, ← Nat.mul_assoc] at e2
  omega
theorem rd_beyond {l : List Int} {i : Nat} (h : l.length ≤ i) : rd l (i : Int) = 0 := by
  rw [rd_getD, List.getD_eq_getElem?_getD, List.getElem?_eq_none h]; rfl
theorem add_l0 {a b : List Int} (oa : Num.okW a) (ob : Num.okW b) (hab : b.length ≤ a.length) (hl : a.length ≤ 100000000) (d : Nat) : ∀ (i : Nat) (dn : List Int) (c : Int), i + d = a.length → dn.length = i → Num.okW dn → 0 ≤ c ∧ c ≤ 1 →
    Num.valN dn + 4294967296 ^ i * c.toNat = Num.valN (a.take i) + Num.valN (b.take i) →
    Ev (fun k => nat_Add.l0 k a b (dn ++ List.replicate (d + 1) 0) c a (a.length : Int) (i : Int)) (Num.wordsN (Num.valN a + Num.valN b)) := by
  induction d with
  | zero =>
    intro i dn c hi hd od hc hv
    have e : (dn ++ List.replicate (0 + 1) 0).set a.length c = dn ++ [c] := by
      rw [show a.length = dn.length by omega, set_next]; simp
    refine Ev.step (f := fun k => (nat_trim.f k (dn ++ [c])).bind fun t => some t) (fun k => ?_) ?_
    · simp only [nat_Add.l0]
      rw [if_neg (by omega), if_pos (by omega), if_pos (by simp only [List.length_append, List.length_replicate]; omega), Int.toNat_natCast, e]
    · refine Ev.bind (ev_trim _ (by simp only [List.length_append, List.length_cons, List.length_nil]; omega)) ?_
      rw [Num.trim_words (Num.okW_snoc od hc.1 (by omega)), Num.val_snoc, hd, hv, List.take_of_length_le (by omega), List.take_of_length_le (by omega)]
      exact Ev.now _
  | succ d ih =>
    intro i dn c hi hd od hc hv
    have ox := rd_ok oa i
    have oy := rd_ok ob i
    have hs : (dn ++ List.replicate (d + 1 + 1) 0).set i ((rd a (i : Int) + rd b (i : Int) + c) % 4294967296) = (dn ++ [(rd a (i : Int) + rd b (i : Int) + c) % 4294967296]) ++ List.replicate (d + 1) 0 := by
      rw [← hd]; exact set_next _ _ _
    have hn := ih (i + 1) (dn ++ [(rd a (i : Int) + rd b (i : Int) + c) % 4294967296]) ((rd a (i : Int) + rd b (i : Int) + c) / 4294967296) (by omega) (by simp [hd]) (Num.okW_snoc od (by omega) (by omega)) (by omega) (by
      rw [Num.val_snoc, hd, Num.val_take_next, Num.val_take_next, ← rd_toNat, ← rd_toNat, Nat.pow_succ]
      have := carry_step (x := (rd a (i : Int)).toNat) (y := (rd b (i : Int)).toNat) hv
      rw [show ((rd a (i : Int) + rd b (i : Int) + c) % 4294967296).toNat = ((rd a (i : Int)).toNat + (rd b (i : Int)).toNat + c.toNat) % 4294967296 by omega, show ((rd a (i : Int) + rd b (i : Int) + c) / 4294967296).toNat = ((rd a (i : Int)).toNat + (rd b (i : Int)).toNat + c.toNat) / 4294967296 by omega]
      exact this)
    have hlen : (i : Int) < ((dn ++ List.replicate (d + 1 + 1) 0).length : Int) := by simp only [List.length_append, List.length_replicate]; omega
    refine Ev.step (fun k => ?_) hn
    simp only [nat_Add.l0]
    rw [if_pos (by omega), if_pos (by omega), if_pos (by omega), i64_id (show -9223372036854775808 ≤ (i : Int) + 1 by omega) (by omega)]
    by_cases hb : (i : Int) < (b.length : Int)
    · rw [if_pos hb, add32 ox oy hc]
      simp only [Option.bind_some]
      rw [if_pos hlen, Int.toNat_natCast, hs]
      rfl
    · have h0 : rd b (i : Int) = 0 := rd_beyond (by omega)
      rw [h0] at hs ⊢
      rw [if_neg hb, add32 ox (by omega) hc]
      simp only [Option.bind_some]
      rw [if_pos hlen, Int.toNat_natCast, hs]
      rfl
theorem add_j0 {a b : List Int} (oa : Num.okW a) (ob : Num.okW b) (hab : b.length ≤ a.length) (hl : a.length ≤ 100000000) : Ev (fun k => nat_Add.j0 k a b) (Num.wordsN (Num.valN a + Num.valN b)) := by
  have h := add_l0 oa ob hab hl a.length 0 [] 0 (by omega) rfl Num.okW_nil (by omega) (by simp [Num.valN])
  refine Ev.step (fun k => ?_) h
  simp only [nat_Add.j0]
  rw [i64_id (show -9223372036854775808 ≤ (a.length : Int) + 1 by omega) (by omega), if_pos (by omega), if_pos (by omega), show ((a.length : Int) + 1).toNat = a.length + 1 by omega]
  rfl
theorem ev_add (l0 l1 : List Int) (o0 : Num.okW l0) (o1 : Num.okW l1) (h0 : l0.length ≤ 100000000) (h1 : l1.length ≤ 100000000) : Ev (fun k => nat_Add.f k l0 l1) (Num.wordsN (Num.valN l0 + Num.valN l1)) := by
  unfold nat_Add.f
  refine Ev.bind (ev_trim l0 (by omega)) (Ev.bind (ev_trim l1 (by omega)) ?_)
  have b0 := Num.trimW_length_le l0
  have b1 := Num.trimW_length_le l1
  rw [← Num.trimW_val l0, ← Num.trimW_val l1]
  by_cases c : (Num.trimW l0).length < (Num.trimW l1).length
  · refine Ev.congr (fun k => by rw [if_pos (by omega)]) ?_
    rw [Nat.add_comm]
    exact add_j0 (Num.okW_trim o1) (Num.okW_trim o0) (by omega) (by omega)
  · refine Ev.congr (fun k => by rw [if_neg (by omega)]) ?_
    exact add_j0 (Num.okW_trim o0) (Num.okW_trim o1) (by omega) (by omega)

/-! ### the reference's sum -/
theorem radd_l0 {a b : List Int} (oa : Num.okW a) (ob : Num.okW b) (ha : a.length ≤ 100000000) (hb : b.length ≤ 100000000) (d : Nat) : ∀ (i : Nat) (dn : List Int) (c : Int), i + d = max a.length b.length → dn.length = i → Num.okW dn → 0 ≤ c ∧ c ≤ 1 →
    Num.valN dn + 4294967296 ^ i * c.toNat = Num.valN (a.take i) + Num.valN (b.take i) →
    Ev (fun k => bobbinref2_Add.l0 k a b dn c (i : Int)) (Num.wordsN (Num.valN a + Num.valN b)) := by
  induction d with
  | zero =>
    intro i dn c hi hd od hc hv
    have h1 : a.length ≤ i := by omega
    have h2 : b.length ≤ i := by omega
    refine Ev.step (f := fun k => bobbinref2_Add.j1 k a b dn c (i : Int) false) (fun k => ?_) ?_
    · simp only [bobbinref2_Add.l0]
      rw [if_neg (by omega), decide_eq_false (by omega)]
    · refine Ev.step (f := fun k => (bobbinref2_Norm.f k (dn ++ [c])).bind fun t => some t) (fun k => ?_) ?_
      · simp only [bobbinref2_Add.j1]
        rw [if_neg (by simp), if_pos (by omega), Int.emod_eq_of_lt (show 0 ≤ c by omega) (by omega)]
      · refine Ev.bind (ev_rnorm _ (by simp only [List.length_append, List.length_cons, List.length_nil]; omega)) ?_
        rw [Num.trim_words (Num.okW_snoc od hc.1 (by omega)), Num.val_snoc, hd, hv, List.take_of_length_le (by omega), List.take_of_length_le (by omega)]
        exact Ev.now _
  | succ d ih =>
    intro i dn c hi hd od hc hv
    have ox := rd_ok oa i
    have oy := rd_ok ob i
    have hn := ih (i + 1) (dn ++ [(rd a (i : Int) + rd b (i : Int) + c) % 4294967296]) ((rd a (i : Int) + rd b (i : Int) + c) / 4294967296) (by omega) (by simp [hd]) (Num.okW_snoc od (by omega) (by omega)) (by omega) (by
      rw [Num.val_snoc, hd, Num.val_take_next, Num.val_take_next, ← rd_toNat, ← rd_toNat, Nat.pow_succ]
      have := carry_step (x := (rd a (i : Int)).toNat) (y := (rd b (i : Int)).toNat) hv
      rw [show ((rd a (i : Int) + rd b (i : Int) + c) % 4294967296).toNat = ((rd a (i : Int)).toNat + (rd b (i : Int)).toNat + c.toNat) % 4294967296 by omega, show ((rd a (i : Int) + rd b (i : Int) + c) / 4294967296).toNat = ((rd a (i : Int)).toNat + (rd b (i : Int)).toNat + c.toNat) / 4294967296 by omega]
      exact this)
    refine Ev.step (f := fun k => bobbinref2_Add.j1 k a b dn c (i : Int) true) (fun k => ?_) ?_
    · simp only [bobbinref2_Add.l0]
      by_cases h1 : (i : Int) < (a.length : Int)
      · rw [if_pos h1]
      · rw [if_neg h1, decide_eq_true (by omega)]
    · refine Ev.step (fun k => ?_) hn
      simp only [bobbinref2_Add.j1, if_true]
      rw [i64_id (show -9223372036854775808 ≤ (i : Int) + 1 by omega) (by omega)]
      by_cases h1 : (i : Int) < (a.length : Int)
      · rw [if_pos h1, if_pos (by omega)]
        by_cases h2 : (i : Int) < (b.length : Int)
        · have eT : IntKind.u64.wrap (IntKind.u64.wrap (c + IntKind.u64.wrap (rd a (i : Int))) + IntKind.u64.wrap (rd b (i : Int))) = rd a (i : Int) + rd b (i : Int) + c := by simp only [u64_mod]; omega
          rw [if_pos h2, if_pos (by omega), eT]
          rfl
        · have h0 : rd b (i : Int) = 0 := rd_beyond (by omega)
          have eT : IntKind.u64.wrap (c + IntKind.u64.wrap (rd a (i : Int))) = rd a (i : Int) + rd b (i : Int) + c := by rw [h0]; simp only [u64_mod]; omega
          rw [if_neg h2, if_pos (by omega), eT]
          rfl
      · have h2 : (i : Int) < (b.length : Int) := by omega
        have h0 : rd a (i : Int) = 0 := rd_beyond (by omega)
        have eT : IntKind.u64.wrap (c + IntKind.u64.wrap (rd b (i : Int))) = rd a (i : Int) + rd b (i : Int) + c := by rw [h0]; simp only [u64_mod]; omega
        rw [if_neg h1, if_pos h2, if_pos (by omega), if_pos (by omega), eT]
        rfl
theorem ev_radd (l0 l1 : List Int) (o0 : Num.okW l0) (o1 : Num.okW l1) (h0 : l0.length ≤ 100000000) (h1 : l1.length ≤ 100000000) : Ev (fun k => bobbinref2_Add.f k l0 l1) (Num.wordsN (Num.valN l0 + Num.valN l1)) := by
  unfold bobbinref2_Add.f
  exact radd_l0 o0 o1 h0 h1 (max l0.length l1.length) 0 [] 0 (by omega) rfl Num.okW_nil (by omega) (by simp [Num.valN])

/-! ### differences -/
/-- a difference, or the refusal -/
def subW (a b : Nat) : List Int × Int := if a < b then ([], 1) else (Num.wordsN (a - b), 0)
theorem no_borrow {P vd va vb c : Nat} (h : va + P * c = vd + vb) (hd : vd < P) (hab : vb ≤ va) (hc : c ≤ 1) : vd = va - vb := by
  rcases Nat.lt_or_ge 0 c with h1 | h1
  · have : c = 1 := by omega
    subst this
    omega
  · have : c = 0 := by omega
    subst this
    omega
theorem sub_word {x y c : Int} (hx : 0 ≤ x ∧ x < 4294967296) (hy : 0 ≤ y ∧ y < 4294967296) (hc : 0 ≤ c ∧ c ≤ 1) : x.toNat + 4294967296 * (if x < y + c then (1 : Int) else 0).toNat = ((x - y - c) % 4294967296).toNat + y.toNat + c.toNat ∧ (0 ≤ (if x < y + c then (1 : Int) else 0) ∧ (if x < y + c then (1 : Int) else 0) ≤ 1) := by
  split <;> refine ⟨?_, by decide⟩ <;> omega
theorem sub_l0 {a b : List Int} (oa : Num.okW a) (ob : Num.okW b) (hab : b.length ≤ a.length) (hv0 : Num.valN b ≤ Num.valN a) (hl : a.length ≤ 1000000000) (d : Nat) : ∀ (i : Nat) (dn : List Int) (c : Int), i + d = a.length → dn.length = i → Num.okW dn → 0 ≤ c ∧ c ≤ 1 →
    Num.valN (a.take i) + 4294967296 ^ i * c.toNat = Num.valN dn + Num.valN (b.take i) →
    Ev (fun k => nat_Sub.l0 k b (dn ++ List.replicate d 0) c a (a.length : Int) (i : Int)) (Num.wordsN (Num.valN a - Num.valN b), (0 : Int)) := by
  induction d with
  | zero =>
    intro i dn c hi hd od hc hv
    refine Ev.step (f := fun k => (nat_trim.f k dn).bind fun t => some (t, (0 : Int))) (fun k => ?_) ?_
    · simp only [nat_Sub.l0]
      rw [if_neg (by omega), List.replicate_zero, List.append_nil]
    · refine Ev.bind (ev_trim _ (by omega)) ?_
      rw [List.take_of_length_le (by omega), List.take_of_length_le (by omega)] at hv
      rw [Num.trim_words od, no_borrow hv (by have := Num.valN_lt od; rw [hd] at this; exact this) hv0 (by omega)]
      exact Ev.now _
  | succ d ih =>
    intro i dn c hi hd od hc hv
    have ox := rd_ok oa i
    have oy := rd_ok ob i
    obtain ⟨w1, w2⟩ := sub_word ox oy hc
    have hs : (dn ++ List.replicate (d + 1) 0).set i ((rd a (i : Int) - rd b (i : Int) - c) % 4294967296) = (dn ++ [(rd a (i : Int) - rd b (i : Int) - c) % 4294967296]) ++ List.replicate d 0 := by
      rw [← hd]; exact set_next _ _ _
    have hn := ih (i + 1) (dn ++ [(rd a (i : Int) - rd b (i : Int) - c) % 4294967296]) (if rd a (i : Int) < rd b (i : Int) + c then 1 else 0) (by omega) (by simp [hd]) (Num.okW_snoc od (by omega) (by omega)) w2 (by
      rw [Num.val_snoc, hd, Num.val_take_next, Num.val_take_next, ← rd_toNat, ← rd_toNat, Nat.pow_succ]
      exact borrow_step hv w1)
    have hlen : (i : Int) < ((dn ++ List.replicate (d + 1) 0).length : Int) := by simp only [List.length_append, List.length_replicate]; omega
    refine Ev.step (fun k => ?_) hn
    simp only [nat_Sub.l0]
    rw [if_pos (by omega), if_pos (by omega), if_pos (by omega), i64_id (show -9223372036854775808 ≤ (i : Int) + 1 by omega) (by omega)]
    by_cases hb : (i : Int) < (b.length : Int)
    · rw [if_pos hb, sub32 ox oy hc]
      simp only [Option.bind_some]
      rw [if_pos hlen, Int.toNat_natCast, hs]
      rfl
    · have h0 : rd b (i : Int) = 0 := rd_beyond (by omega)
      rw [h0] at hs ⊢
      rw [if_neg hb, sub32 ox (by omega) hc]
      simp only [Option.bind_some]
      rw [if_pos hlen, Int.toNat_natCast, hs]
      rfl
theorem ev_sub (l0 l1 : List Int) (o0 : Num.okW l0) (o1 : Num.okW l1) (h0 : l0.length ≤ 1000000000) (h1 : l1.length ≤ 1000000000) : Ev (fun k => nat_Sub.f k l0 l1) (subW (Num.valN l0) (Num.valN l1)) := by
  unfold nat_Sub.f subW
  refine Ev.bind (ev_cmp l0 l1 o0 o1 h0 h1) ?_
  by_cases hlt : Num.valN l0 < Num.valN l1
  · refine Ev.congr (f := fun _ => some (([] : List Int), (1 : Int))) (fun k => by rw [if_pos (Num.cmpN_neg.2 hlt)]) ?_
    rw [if_pos hlt]
    exact Ev.now _
  · rw [if_neg hlt]
    have b0 := Num.trimW_length_le l0
    have b1 := Num.trimW_length_le l1
    have hle : (Num.trimW l1).length ≤ (Num.trimW l0).length := by
      rcases Nat.lt_or_ge (Num.trimW l0).length (Num.trimW l1).length with h | h
      · have := Num.lt_of_len (Num.okW_trim o0) (Num.okW_trim o1) (Num.normed_trim l1) h
        rw [Num.trimW_val, Num.trimW_val] at this
        omega
      · exact h
    refine Ev.congr (f := fun k => (nat_trim.f k l0).bind fun t395 => ((nat_trim.f k l1).bind fun t398 => (if 0 ≤ (t395.length : Int) then (if ((t395.length : Int) : Int).toNat ≤ 70368744177664 then (nat_Sub.l0 k t398 (List.replicate ((t395.length : Int) : Int).toNat 0) 0 t395 (t395.length : Int) 0) else (none)) else (none)))) (fun k => by rw [if_neg (fun h => hlt (Num.cmpN_neg.1 h))]) ?_
    refine Ev.bind (ev_trim l0 h0) (Ev.bind (ev_trim l1 h1) ?_)
    refine Ev.congr (fun k => by rw [if_pos (by omega), if_pos (by omega), Int.toNat_natCast]) ?_
    have h := sub_l0 (Num.okW_trim o0) (Num.okW_trim o1) hle (by rw [Num.trimW_val, Num.trimW_val]; omega) (by omega) (Num.trimW l0).length 0 [] 0 (by omega) rfl Num.okW_nil (by omega) (by simp [Num.valN])
    rw [Num.trimW_val, Num.trimW_val] at h
    exact h
theorem rsub_l0 {a b : List Int} (oa : Num.okW a) (ob : Num.okW b) (hab : b.length ≤ a.length) (hv0 : Num.valN b ≤ Num.valN a) (hl : a.length ≤ 1000000000) (d : Nat) : ∀ (i : Nat) (dn : List Int) (c : Int), i + d = a.length → dn.length = i → Num.okW dn → 0 ≤ c ∧ c ≤ 1 →
    Num.valN (a.take i) + 4294967296 ^ i * c.toNat = Num.valN dn + Num.valN (b.take i) →
    Ev (fun k => bobbinref2_Sub.l0 k a b dn c (i : Int)) (Num.wordsN (Num.valN a - Num.valN b), (0 : Int)) := by
  induction d with
  | zero =>
    intro i dn c hi hd od hc hv
    refine Ev.step (f := fun k => (bobbinref2_Norm.f k dn).bind fun t => some (t, (0 : Int))) (fun k => ?_) ?_
    · simp only [bobbinref2_Sub.l0]
      rw [if_neg (by omega)]
    · refine Ev.bind (ev_rnorm _ (by omega)) ?_
      rw [List.take_of_length_le (by omega), List.take_of_length_le (by omega)] at hv
      rw [Num.trim_words od, no_borrow hv (by have := Num.valN_lt od; rw [hd] at this; exact this) hv0 (by omega)]
      exact Ev.now _
  | succ d ih =>
    intro i dn c hi hd od hc hv
    have ox := rd_ok oa i
    have oy := rd_ok ob i
    obtain ⟨w1, w2⟩ := sub_word ox oy hc
    have hn := ih (i + 1) (dn ++ [(rd a (i : Int) - rd b (i : Int) - c) % 4294967296]) (if rd a (i : Int) < rd b (i : Int) + c then 1 else 0) (by omega) (by simp [hd]) (Num.okW_snoc od (by omega) (by omega)) w2 (by
      rw [Num.val_snoc, hd, Num.val_take_next, Num.val_take_next, ← rd_toNat, ← rd_toNat, Nat.pow_succ]
      exact borrow_step hv w1)
    refine Ev.step (fun k => ?_) hn
    simp only [bobbinref2_Sub.l0]
    rw [if_pos (by omega), if_pos (by omega), i64_id (show -9223372036854775808 ≤ (i : Int) + 1 by omega) (by omega)]
    by_cases hb : (i : Int) < (b.length : Int)
    · have eT : IntKind.u64.wrap (IntKind.u64.wrap (IntKind.u64.wrap (rd a (i : Int)) - c) - IntKind.u64.wrap (rd b (i : Int))) = (rd a (i : Int) - rd b (i : Int) - c) % 18446744073709551616 := by simp only [u64_mod]; omega
      have e1 : (rd a (i : Int) - rd b (i : Int) - c) % 18446744073709551616 % 4294967296 = (rd a (i : Int) - rd b (i : Int) - c) % 4294967296 := by omega
      have e2 : (rd a (i : Int) - rd b (i : Int) - c) % 18446744073709551616 / 9223372036854775808 = if rd a (i : Int) < rd b (i : Int) + c then 1 else 0 := by split <;> omega
      rw [if_pos hb, if_pos (by omega), eT, e1, e2]
      rfl
    · have h0 : rd b (i : Int) = 0 := rd_beyond (by omega)
      have eT : IntKind.u64.wrap (IntKind.u64.wrap (rd a (i : Int)) - c) = (rd a (i : Int) - rd b (i : Int) - c) % 18446744073709551616 := by rw [h0]; simp only [u64_mod]; omega
      have e1 : (rd a (i : Int) - rd b (i : Int) - c) % 18446744073709551616 % 4294967296 = (rd a (i : Int) - rd b (i : Int) - c) % 4294967296 := by omega
      have e2 : (rd a (i : Int) - rd b (i : Int) - c) % 18446744073709551616 / 9223372036854775808 = if rd a (i : Int) < rd b (i : Int) + c then 1 else 0 := by split <;> omega
      rw [if_neg hb, if_pos (by omega), eT, e1, e2]
      rfl
theorem ev_rsub (l0 l1 : List Int) (o0 : Num.okW l0) (o1 : Num.okW l1) (h0 : l0.length ≤ 1000000000) (h1 : l1.length ≤ 1000000000) : Ev (fun k => bobbinref2_Sub.f k l0 l1) (subW (Num.valN l0) (Num.valN l1)) := by
  unfold bobbinref2_Sub.f subW
  refine Ev.bind (ev_rcmp l0 l1 o0 o1 h0 h1) ?_
  by_cases hlt : Num.valN l0 < Num.valN l1
  · refine Ev.congr (f := fun _ => some (([] : List Int), (1 : Int))) (fun k => by rw [if_pos (Num.cmpN_neg.2 hlt)]) ?_
    rw [if_pos hlt]
    exact Ev.now _
  · rw [if_neg hlt]
    have b0 := Num.trimW_length_le l0
    have hle : (Num.trimW l1).length ≤ l0.length := by
      rcases Nat.lt_or_ge l0.length (Num.trimW l1).length with h | h
      · have := Num.lt_of_len o0 (Num.okW_trim o1) (Num.normed_trim l1) h
        rw [Num.trimW_val] at this
        omega
      · exact h
    refine Ev.congr (f := fun k => (bobbinref2_trimmed.f k l1).bind fun t426 => (bobbinref2_Sub.l0 k l0 t426 ([] : List Int) 0 0)) (fun k => by rw [if_neg (fun h => hlt (Num.cmpN_neg.1 h))]) ?_
    refine Ev.bind (ev_rtrim l1 h1) ?_
    have h := rsub_l0 o0 (Num.okW_trim o1) hle (by rw [Num.trimW_val]; omega) (by omega) l0.length 0 [] 0 (by omega) rfl Num.okW_nil (by omega) (by simp [Num.valN])
    rw [Num.trimW_val] at h
    exact h

end Go.Proofs.YtkihjfpfocnneaaDoor.Pure

/- NatSums: the law's function answers true. -/
namespace Go.Proofs.YtkihjfpfocnneaaDoor.Pure
open Go.RowKit Go.Proofs.YtkihjfpfocnneaaDoor.PNat Go.Proofs.YtkihjfpfocnneaaDoorW.PrintWords Go.Proofs.YtkihjfpfocnneaaDoorW.PrintLast Go.Proofs.YtkihjfpfocnneaaDoorW.PrintMore
set_option linter.unusedVariables false
set_option linter.unusedSimpArgs false
theorem lent_f (l : List Int) (h : l.length ≤ 1000000) : bobbinlaw2_lent.f l = some l := by
  unfold bobbinlaw2_lent.f
  rw [if_pos (by simp only [List.length_nil]; omega), Option.bind_some, if_pos (by simp only [List.length_append, List.length_nil]; omega), Option.bind_some, if_pos (by omega), if_pos (by simp only [List.length_append, List.length_nil, List.length_singleton]; omega), Int.toNat_natCast, List.nil_append, List.take_left]
theorem back_ev (l : List Int) (h : l.length ≤ 1000000000) : Ev (fun k => bobbinlaw2_back.f k l l) true := ev_same_self l h
theorem sums_l2 (x0 x1 : List Int) (h0 : x0.length ≤ 1000000000) (h1 : x1.length ≤ 1000000000) (d : Nat) : ∀ (i : Nat) (x8 : List Int), i + d = x8.length → x8.length ≤ 1000000000 →
    Ev (fun k => bobbinlaw2_NatSums.l2 k x0 x1 x0 x1 x8 true (i : Int)) true := by
  induction d with
  | zero =>
    intro i x8 hi hl
    refine Ev.step (f := fun k => (bobbinlaw2_back.f k x0 x0).bind fun t507 => (if t507 = true then ((bobbinlaw2_back.f k x1 x1).bind fun t508 => (if t508 = true then ((bobbinlaw2_awake.f k).bind fun t509 => (some t509)) else (some false))) else (some false))) (fun k => ?_) ?_
    · simp only [bobbinlaw2_NatSums.l2]
      rw [if_neg (by omega)]
      rfl
    · refine Ev.bind (back_ev x0 h0) ?_
      simp only [if_true]
      refine Ev.bind (back_ev x1 h1) ?_
      simp only [if_true]
      exact Ev.bind ev_awake (Ev.now _)
  | succ d ih =>
    intro i x8 hi hl
    refine Ev.step (fun k => ?_) (ih (i + 1) (x8.set i 3) (by simp; omega) (by simpa using hl))
    simp only [bobbinlaw2_NatSums.l2]
    rw [if_pos (by omega), if_pos (by omega), i64_id (show -9223372036854775808 ≤ (i : Int) + 1 by omega) (by omega)]
    rfl
theorem sums_l1 (x0 x1 x8 : List Int) (h0 : x0.length ≤ 1000000000) (h1 : x1.length ≤ 1000000000) (h8 : x8.length ≤ 1000000000) (d : Nat) : ∀ (i : Nat) (x : List Int), i + d = x.length → x.length ≤ 1000000000 →
    Ev (fun k => bobbinlaw2_NatSums.l1 k x0 x1 x0 x1 x8 x true (i : Int)) true := by
  induction d with
  | zero =>
    intro i x hi hl
    refine Ev.step (fun k => ?_) (sums_l2 x0 x1 h0 h1 x8.length 0 x8 (by omega) h8)
    simp only [bobbinlaw2_NatSums.l1]
    rw [if_neg (by omega)]
    rfl
  | succ d ih =>
    intro i x hi hl
    refine Ev.step (fun k => ?_) (ih (i + 1) (x.set i 3) (by simp; omega) (by simpa using hl))
    simp only [bobbinlaw2_NatSums.l1]
    rw [if_pos (by omega), if_pos (by omega), i64_id (show -9223372036854775808 ≤ (i : Int) + 1 by omega) (by omega)]
    rfl
theorem sums_l0 (x0 x1 x8 x10 : List Int) (h0 : x0.length ≤ 1000000000) (h1 : x1.length ≤ 1000000000) (h8 : x8.length ≤ 1000000000) (h10 : x10.length ≤ 1000000000) (d : Nat) : ∀ (i : Nat) (x : List Int), i + d = x.length → x.length ≤ 1000000000 →
    Ev (fun k => bobbinlaw2_NatSums.l0 k x0 x1 x0 x1 x x8 x10 true (i : Int)) true := by
  induction d with
  | zero =>
    intro i x hi hl
    refine Ev.step (fun k => ?_) (sums_l1 x0 x1 x8 h0 h1 h8 x10.length 0 x10 (by omega) h10)
    simp only [bobbinlaw2_NatSums.l0]
    rw [if_neg (by omega)]
    rfl
  | succ d ih =>
    intro i x hi hl
    refine Ev.step (fun k => ?_) (ih (i + 1) (x.set i 3) (by simp; omega) (by simpa using hl))
    simp only [bobbinlaw2_NatSums.l0]
    rw [if_pos (by omega), if_pos (by omega), i64_id (show -9223372036854775808 ≤ (i : Int) + 1 by omega) (by omega)]
    rfl
theorem val_add_lt {l0 l1 : List Int} (o0 : Num.okW l0) (o1 : Num.okW l1) : Num.valN l0 + Num.valN l1 < 4294967296 ^ (max l0.length l1.length + 1) := by
  have h0 := Num.valN_lt o0
  have h1 := Num.valN_lt o1
  have h2 : 4294967296 ^ l0.length ≤ 4294967296 ^ max l0.length l1.length := Nat.pow_le_pow_right (by decide) (Nat.le_max_left _ _)
  have h3 : 4294967296 ^ l1.length ≤ 4294967296 ^ max l0.length l1.length := Nat.pow_le_pow_right (by decide) (Nat.le_max_right _ _)
  rw [Nat.pow_succ]
  omega
theorem subW_len {l0 l1 : List Int} (o0 : Num.okW l0) : (subW (Num.valN l0) (Num.valN l1)).1.length ≤ l0.length := by
  unfold subW
  split
  · exact Nat.zero_le _
  · refine Num.wordsN_len ?_
    have := Num.valN_lt o0
    show Num.valN l0 - Num.valN l1 < _
    omega
theorem sums_j0 (l0 l1 : List Int) (o0 : Num.okW l0) (o1 : Num.okW l1) (h0 : l0.length ≤ 130) (h1 : l1.length ≤ 130) : Ev (fun k => bobbinlaw2_NatSums.j0 k l0 l1 false) true := by
  have hA : (Num.wordsN (Num.valN l0 + Num.valN l1)).length ≤ 1000000000 := Nat.le_trans (Num.wordsN_len (val_add_lt o0 o1)) (by omega)
  have hS : (subW (Num.valN l0) (Num.valN l1)).1.length ≤ 1000000000 := Nat.le_trans (subW_len o0) (by omega)
  have hN := Num.trimW_length_le l0
  have hj : Ev (fun k => bobbinlaw2_NatSums.j1 k l0 l1 l0 l1 (Num.wordsN (Num.valN l0 + Num.valN l1)) (subW (Num.valN l0) (Num.valN l1)).1 (Num.trimW l0) true) true := by
    refine Ev.step (fun k => ?_) (sums_l0 l0 l1 (subW (Num.valN l0) (Num.valN l1)).1 (Num.trimW l0) (by omega) (by omega) hS (by omega) (Num.wordsN (Num.valN l0 + Num.valN l1)).length 0 _ (by omega) hA)
    simp only [bobbinlaw2_NatSums.j1]
    rfl
  refine Ev.step (fun k => by simp only [bobbinlaw2_NatSums.j0, Bool.false_eq_true, if_false]; rfl) ?_
  simp only [lent_f l0 (by omega), lent_f l1 (by omega), Option.bind_some]
  refine Ev.bind (ev_add l0 l1 o0 o1 (by omega) (by omega)) (Ev.bind (ev_sub l0 l1 o0 o1 (by omega) (by omega)) (Ev.bind (ev_norm l0 (by omega)) (Ev.bind (ev_rsub l0 l1 o0 o1 (by omega) (by omega)) (Ev.bind (ev_radd l0 l1 o0 o1 (by omega) (by omega)) (Ev.bind (ev_same_self _ hA) ?_)))))
  simp only [if_true]
  refine Ev.bind (ev_same_self _ hS) ?_
  simp only [if_true]
  refine Ev.bind (ev_rnorm l0 (by omega)) (Ev.bind (ev_same_self _ (by omega)) ?_)
  simp only [if_true]
  refine Ev.bind (ev_cmp l0 l1 o0 o1 (by omega) (by omega)) (Ev.bind (ev_rcmp l0 l1 o0 o1 (by omega) (by omega)) ?_)
  simp only [if_true]
  refine Ev.bind (ev_bits l0 o0 (by omega)) (Ev.bind (ev_rbits l0 o0 (by omega)) ?_)
  simp only [beq_self_eq_true]
  exact hj
theorem okW_of_wf {l : List Int} (h : ∀ x ∈ l, (Lit.int .u32 x).wf = true) : Num.okW l := by
  intro x hx
  have := h x hx
  have w : 0 ≤ x ∧ x ≤ 4294967295 := by simpa [Lit.wf, IntKind.min, IntKind.max, IntKind.signed, IntKind.bits] using this
  omega
theorem natSums_pure : bobbinlaw2_NatSums.Pure := by
  intro l0 l1 _ _ w0 _ _ w1
  have o0 := okW_of_wf w0
  have o1 := okW_of_wf w1
  have big : Ev (fun k => bobbinlaw2_NatSums.j0 k l0 l1 true) true := by
    refine Ev.step (f := fun k => (bobbinlaw2_awake.f k).bind fun t => some t) (fun k => ?_) (Ev.bind ev_awake (Ev.now _))
    simp only [bobbinlaw2_NatSums.j0, if_true]
  have key : Ev (fun k => bobbinlaw2_NatSums.f k l0 l1) true := by
    unfold bobbinlaw2_NatSums.f
    by_cases c0 : (l0.length : Int) > 130
    · simp only [if_pos c0]
      exact big
    · simp only [if_neg c0]
      by_cases c1 : (l1.length : Int) > 130
      · simp only [decide_eq_true c1]
        exact big
      · simp only [decide_eq_false c1]
        exact sums_j0 l0 l1 o0 o1 (by omega) (by omega)
  obtain ⟨K, h⟩ := key
  exact ⟨K, h K (Nat.le_refl _)⟩

end Go.Proofs.YtkihjfpfocnneaaDoor.Pure

/- The law NatSums answers true at every input its row admits: the row, and its tied card. -/
namespace Go.Proofs.YtkihjfpfocnneaaDoor.natSums
open Go.ChangeShapes Go.WideShapes Go.ChangeAt Go.RowKit
open Go.ChangeMaps (open_string shut_string)
set_option linter.unusedVariables false
theorem own : ownKnob Tryd.prog.godebug = none := by kernel_rfl
theorem laidOut : laidOutB Tryd.prog = true := by kernel_rfl
def IsRow (k : IntKind) (w : World) (a : Option Addr) (len cap : Nat) (zs : List Int) : Prop :=
  (a = none ∧ len = 0 ∧ cap = 0 ∧ zs = []) ∨
  ∃ x, a = some x ∧ len ≤ cap ∧ cap ≤ maxLen ∧ zs.length = cap ∧ (∀ i, i < zs.length → w.cell? (x.add i) = some (.int k (zs.getD i 0))) ∧ ∀ n ∈ zs, (Lit.int k n).wf = true
set_option maxRecDepth 100000 in
theorem lifted (os : Os) (started : os.Started) (H : Type) (enc : TypeId × Value → H) :
    ReturnsInHanded {} Tryd.checked os 7 .any (fun w args => (Rows.natSumsSpec.pre enc Tryd.prog Tryd.f7 Rows.natSumsRow.domain false w args ∧ laidMetH Tryd.prog Rows.natSumsRow.laid w) ∧ sizedMet enc Tryd.prog Tryd.f7 (OpenSpec.ofChange Rows.natSumsSpec) false w args) (Rows.natSumsSpec.post enc Tryd.prog Tryd.f7 false true false false) := by
  refine returnsInHanded_of_change_and (C := Tryd.checked) (X := fun w _ => laidMetH Tryd.prog Rows.natSumsRow.laid w) (fun _ _ _ hh h => h.of_heap hh) own started (by kernel_rfl) Tryd.func7
    (ChangeSpec.witness_shaped (enc := enc) (C := Tryd.checked) (os := os) (X := fun w _ => laidMetH Tryd.prog Rows.natSumsRow.laid w) false (World.laidAll Tryd.prog os Rows.natSumsRow.laid) #[.slice none 0 0, .slice none 0 0] 8 (World.laidAll_os _ _ _)
      (World.shaped_of_ZipB (by kernel_rfl) (by kernel_rfl)) (by kernel_rfl) (by kernel_rfl) (by kernel_rfl)
      (by rw [MakeChecks.laidMetH_plain _ _ _ (by kernel_rfl)]; exact laidMet_laidAll _ (by kernel_rfl) (by kernel_rfl))) ?_
  intro W base args ds gs before hval0 hW hcnd hsz0 _ _
  have hsz : (DataW.weightsEach Tryd.prog (Tryd.f7.params.toList ++ Rows.natSumsSpec.plain.varTypes Tryd.prog) (ds ++ gs)).all (· ≤ reachBytes) = true := hsz0
  have hval : ∀ (j : Nat) t v, Tryd.f7.params[j]? = some t → args[j]? = some v → Value.okWide Tryd.prog W .any base t v := hval0
  have hW' := hW
  obtain ⟨p, q, hA0, hV, rfl, hfz, hnd⟩ := hW
  have hA : DataW.TrodAll enc Tryd.prog W 0 (fun _ => true) true Tryd.f7.params.toList args.toList ds p := hA0
  rw [Tryd.params7] at hA hval hsz
  obtain ⟨v0, vs0, d0, ds0, p0, q0, hargs, rfl, rfl, h0, r0⟩ := trodAll_cons hA
  obtain ⟨v1, vs1, d1, ds1, p1, q1, rfl, rfl, rfl, h1, r1⟩ := trodAll_cons r0
  obtain ⟨rfl, rfl, rfl⟩ := trodAll_nil r1
  obtain rfl : args = #[v0, v1] := by cases args; simp_all
  obtain ⟨rfl, rfl⟩ := trodVars_none hV
  obtain ⟨a0, len0, cap0, rfl⟩ := okWide_slice Tryd.underlying23 (hval 0 23 v0 rfl rfl)
  have k0 := h0
  have lt0 : ∀ x ∈ p0, x.block < W.heap.size := by obtain ⟨m, hm⟩ := k0; exact DataW.trod_lt m _ _ _ hm
  obtain ⟨z0, w0⟩ : ∃ zs, IsRow .u32 W a0 len0 cap0 zs := by
    obtain ⟨fuel, hf⟩ := h0
    rcases open_ints Tryd.underlying23 Tryd.underlying38 (by kernel_rfl) hf with ⟨hcs, _⟩ | ⟨x, l, c, zs, hcs, _, hl, hm, hz, _, hcell, hwz⟩
    · simp [Value.cells] at hcs
      obtain ⟨rfl, rfl, rfl⟩ := hcs
      exact ⟨[], .inl ⟨rfl, rfl, rfl, rfl⟩⟩
    · simp [Value.cells] at hcs
      obtain ⟨rfl, rfl, rfl⟩ := hcs
      exact ⟨zs, .inr ⟨_, rfl, hl, hm, by simpa using hz, hcell, hwz⟩⟩
  have y0 : len0 * 4 ≤ 140737488351232 := Go.Proofs.YtkihjfpfocnneaaDoorW.PrintWords.sized_ints hsz (j := 0) (t := 23) rfl rfl Tryd.underlying23 Tryd.underlying38 (by kernel_rfl) (by kernel_rfl) h0
  obtain ⟨a1, len1, cap1, rfl⟩ := okWide_slice Tryd.underlying23 (hval 1 23 v1 rfl rfl)
  have k1 := h1
  have lt1 : ∀ x ∈ p1, x.block < W.heap.size := by obtain ⟨m, hm⟩ := k1; exact DataW.trod_lt m _ _ _ hm
  obtain ⟨z1, w1⟩ : ∃ zs, IsRow .u32 W a1 len1 cap1 zs := by
    obtain ⟨fuel, hf⟩ := h1
    rcases open_ints Tryd.underlying23 Tryd.underlying38 (by kernel_rfl) hf with ⟨hcs, _⟩ | ⟨x, l, c, zs, hcs, _, hl, hm, hz, _, hcell, hwz⟩
    · simp [Value.cells] at hcs
      obtain ⟨rfl, rfl, rfl⟩ := hcs
      exact ⟨[], .inl ⟨rfl, rfl, rfl, rfl⟩⟩
    · simp [Value.cells] at hcs
      obtain ⟨rfl, rfl, rfl⟩ := hcs
      exact ⟨zs, .inr ⟨_, rfl, hl, hm, by simpa using hz, hcell, hwz⟩⟩
  have y1 : len1 * 4 ≤ 140737488351232 := Go.Proofs.YtkihjfpfocnneaaDoorW.PrintWords.sized_ints hsz (j := 1) (t := 23) rfl rfl Tryd.underlying23 Tryd.underlying38 (by kernel_rfl) (by kernel_rfl) h1
  clear hA0 hval0 hsz0 hsz
  refine (PNat.bobbinlaw2_NatSums.walk Pure.natSums_pure a0 len0 cap0 z0 a1 len1 cap1 z1 W w0 y0 w1 y1).mono fun e W' ⟨he, bel⟩ => ?_
  subst he
  exact ⟨_, rfl, _, _, _, [], _, [], hW', trodAll_mk1 (shut_bool Tryd.underlying4 _), (trodAll_cons_mk (Below.trod laidOut (by kernel_rfl) (of_decide_eq_true (by kernel_rfl)) k0 bel lt0) (trodAll_cons_mk (Below.trod laidOut (by kernel_rfl) (of_decide_eq_true (by kernel_rfl)) k1 bel lt1) trodAll_mk0)), rfl, bel.frame _, fun h => by cases h⟩
theorem over : Rows.natSumsRow.holds Tryd.pinned (OpenSpec.ofChange Rows.natSumsSpec) :=
  OpenClaim.holds_of_wide 7 Tryd.f7 rfl rfl rfl rfl rfl rfl rfl ⟨rfl, rfl, rfl, rfl, rfl⟩ rfl rfl rfl rfl rfl (by kernel_rfl) Tryd.func7 (by kernel_rfl)
    (of_decide_eq_true (by kernel_rfl)) (by unfold Func.isWrapper; first | (rw [if_pos (by decide +kernel)]; kernel_rfl) | (rw [if_neg (by decide +kernel)]; exact ⟨rfl, rfl⟩))
    (fun os started H enc _ => lifted os started H enc)
theorem proved : Rows.NatSumsSaid := over
#print axioms proved
end Go.Proofs.YtkihjfpfocnneaaDoor.natSums
namespace Go.Proofs.YtkihjfpfocnneaaDoor
/-- The tied card of the row. -/
theorem natSums_card : Rows.NatSumsCardSaid :=
  Claim7.holds_tied_plain_at .later [] [.data, .pinned] true (true, "005fd3a0aea88288d9db4e560ed0fc24a76800b7dd77e6b7e28f807f693223d3") false natSums.proved (fun _ h => by cases h) (by kernel_rfl) (fun _ h => by cases h) natSums_row_tie rfl ⟨rfl, rfl⟩ (by kernel_rfl) rfl
    (fun f fn hf hfn => by
      obtain rfl : f = 7 := Option.some.inj ((show Tryd.prog.funcNamed "bobbin/bobbinlaw2.NatSums" = some 7 by kernel_rfl).symm.trans hf) |>.symm
      obtain rfl : fn = Tryd.f7 := (Option.some.inj (Tryd.func7.symm.trans hfn)).symm
      exact ⟨by kernel_rfl, fun j t ht => by
        rw [Tryd.params7] at ht
        have hm : t ∈ [23, 23] := by simpa using Array.mem_of_getElem? ht
        have hall : ([23, 23].all fun u => !Tryd.prog.wantsStandIn u) = true := by kernel_rfl
        exact (show Tryd.prog.wantsStandIn t = false by simpa using List.all_eq_true.1 hall t hm)⟩)
    (by kernel_rfl)
#print axioms natSums_card
end Go.Proofs.YtkihjfpfocnneaaDoor
