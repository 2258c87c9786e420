/- The law NatProducts answers true at every input, within its row's conditions. This is part 8 of 8: what the session's printing program wrote for the functions reached, and the session's own lemmas. -/
import Derived.Below
import Derived.ChangeOld
import Derived.LaidOnce
import Derived.Lay
import Derived.Lib.IndexBytes
import Derived.Lib.Strings
import Derived.OpenShut
import Derived.ProofKit
import Derived.SevenTiedAt
import Derived.ShutString
import Derived.SizedLaws
import Derived.WalkKit
import Derived.Test.YtkihjfpfocnneaaDoorCards
import Derived.Test.YtkihjfpfocnneaaDoorProducts1
import Derived.Test.YtkihjfpfocnneaaDoorProducts2
import Derived.Test.YtkihjfpfocnneaaDoorProducts3
import Derived.Test.YtkihjfpfocnneaaDoorProducts4
import Derived.Test.YtkihjfpfocnneaaDoorProducts5
import Derived.Test.YtkihjfpfocnneaaDoorProducts6
import Derived.Test.YtkihjfpfocnneaaDoorProducts7
import Derived.Test.YtkihjfpfocnneaaDoorRows
import Derived.Test.YtkihjfpfocnneaaDoorTie
import Derived.Test.YtkihjfpfocnneaaDoorWSized
/- What nat's small functions compute, as numbers: no memory, no program. -/
namespace Go.Proofs.YtkihjfpfocnneaaDoor.Pure
open Go.RowKit Go.Proofs.YtkihjfpfocnneaaDoor.PNat Go.Proofs.YtkihjfpfocnneaaDoorW.PrintWords Go.Proofs.YtkihjfpfocnneaaDoorW.PrintLast Go.Proofs.YtkihjfpfocnneaaDoorW.PrintMore
set_option linter.unusedVariables false
set_option linter.unusedSimpArgs false
theorem i64_id {x : Int} (h0 : -9223372036854775808 ≤ x) (h1 : x ≤ 9223372036854775807) : wrap64 x = x := by unfold wrap64; omega
theorem u64_id {x : Int} (h0 : 0 ≤ x) (h1 : x < 18446744073709551616) : IntKind.u64.wrap x = x := by
  simp only [IntKind.wrap, IntKind.bits, IntKind.signed]
  simp
  omega

theorem ev_trim (l : List Int) (hl : l.length ≤ 1000000000) : Ev (fun k => nat_trim.f k l) (Num.trimW l) := by
  refine ⟨l.length + 1, fun k hk => ?_⟩
  unfold nat_trim.f
  exact trim_pure k l (by omega) (by omega)

theorem ev_large (l : List Int) (hl : l.length ≤ 1000000000) : Ev (fun k => nat_large.f k l) (decide (2000 < (Num.trimW l).length)) := by
  unfold nat_large.f
  refine Ev.bind (ev_trim l hl) ?_
  refine Ev.congr (fun k => ?_) (Ev.now _)
  congr 1
  rw [decide_eq_decide]
  omega

/-- a value that is answered, if it has no more words than may be -/
def fitsW (l : List Int) : List Int × Int := if 2000 < (Num.trimW l).length then ([], 2) else (Num.trimW l, 0)

theorem ev_fits (l : List Int) (hl : l.length ≤ 1000000000) : Ev (fun k => nat_fits.f k l) (fitsW l) := by
  unfold nat_fits.f fitsW
  refine Ev.bind (ev_large l hl) ?_
  by_cases h : 2000 < (Num.trimW l).length
  · simp only [decide_eq_true h, if_true, if_pos h]
    exact Ev.now _
  · simp only [decide_eq_false h, if_neg h]
    refine Ev.congr (f := fun k => (nat_trim.f k l).bind fun t => some (t, 0)) (fun k => by simp only [Bool.false_eq_true, if_false]) ?_
    exact Ev.bind (ev_trim l hl) (Ev.now _)

theorem fitsW_val {l m : List Int} (hl : Num.okW l) (hm : Num.okW m) (h : Num.valN l = Num.valN m) : fitsW l = fitsW m := by
  unfold fitsW
  rw [Num.trimW_eq_of_val hl hm h]

theorem ev_norm (l : List Int) (hl : l.length ≤ 1000000000) : Ev (fun k => nat_Norm.f k l) (Num.trimW l) := by
  unfold nat_Norm.f
  refine Ev.bind (ev_trim l hl) ?_
  have := Num.trimW_length_le l
  refine Ev.congr (fun k => ?_) (Ev.now (Num.trimW l))
  simp only [slices_Clone_uint32_uint32.f]
  rw [if_pos (by omega)]
  rfl

/-- two rows of words are one -/
theorem ev_same_l (l m : List Int) (hlm : l.length = m.length) (hl : l.length ≤ 1000000000) (d : Nat) : ∀ i : Nat, i + d = l.length →
    Ev (fun k => bobbinlaw2_same.l0 k l m (i : Int)) (decide (l.drop i = m.drop i)) := by
  induction d with
  | zero =>
    intro i hi
    refine Ev.step (f := fun _ => some (decide (l.drop i = m.drop i))) (fun k => ?_) (Ev.now _)
    simp only [bobbinlaw2_same.l0]
    rw [if_neg (by omega), List.drop_of_length_le (by omega), List.drop_of_length_le (by omega)]
    simp
  | succ d ih =>
    intro i hi
    by_cases h : rd l (i : Int) = rd m (i : Int)
    · refine Ev.step (f := fun k => bobbinlaw2_same.l0 k l m ((i + 1 : Nat) : Int)) (fun k => ?_) ?_
      · simp only [bobbinlaw2_same.l0]
        rw [if_pos (by omega), if_pos (by omega), if_pos (by omega), if_pos h, i64_id (by omega) (by omega)]
        rfl
      · have e : decide (l.drop i = m.drop i) = decide (l.drop (i + 1) = m.drop (i + 1)) := by
          rw [decide_eq_decide, List.drop_eq_getElem_cons (show i < l.length by omega), List.drop_eq_getElem_cons (show i < m.length by omega)]
          have h' : l[i]'(by omega) = m[i]'(by omega) := by
            simpa [rd, List.getD_eq_getElem?_getD, List.getElem?_eq_getElem (show i < l.length by omega), List.getElem?_eq_getElem (show i < m.length by omega)] using h
          rw [h', List.cons.injEq]
          simp only [true_and]
        rw [e]
        exact ih (i + 1) (by omega)
    · refine Ev.step (f := fun _ => some false) (fun k => ?_) ?_
      · simp only [bobbinlaw2_same.l0]
        rw [if_pos (by omega), if_pos (by omega), if_pos (by omega), if_neg h]
      · have e : decide (l.drop i = m.drop i) = false := by
          apply decide_eq_false
          rw [List.drop_eq_getElem_cons (show i < l.length by omega), List.drop_eq_getElem_cons (show i < m.length by omega)]
          intro hc
          injection hc with hc
          apply h
          simpa [rd, List.getD_eq_getElem?_getD, List.getElem?_eq_getElem (show i < l.length by omega), List.getElem?_eq_getElem (show i < m.length by omega)] using hc
        rw [e]
        exact Ev.now _

theorem ev_same (l m : List Int) (hl : l.length ≤ 1000000000) : Ev (fun k => bobbinlaw2_same.f k l m) (decide (l = m)) := by
  unfold bobbinlaw2_same.f
  by_cases h : l.length = m.length
  · refine Ev.congr (fun k => by rw [if_pos (by omega)]) ?_
    have := ev_same_l l m h hl l.length 0 (by omega)
    simpa using this
  · refine Ev.congr (fun k => by rw [if_neg (by omega)]) ?_
    have e : decide (l = m) = false := decide_eq_false (fun e => h (by rw [e]))
    rw [e]
    exact Ev.now _
theorem ev_same_self (l : List Int) (hl : l.length ≤ 1000000000) : Ev (fun k => bobbinlaw2_same.f k l l) true := by
  have := ev_same l l hl
  simpa using this

/-! more: words times a number, and a carry -/
theorem more_go (b : Int) (hb0 : 0 ≤ b) (hb1 : b < 4294967296) (l : List Int) (hl : Num.okW l) : ∀ c : Int, 0 ≤ c → c < 4294967296 →
    Num.okW (nat_more.go b l c).1 ∧ (nat_more.go b l c).1.length = l.length ∧ 0 ≤ (nat_more.go b l c).2 ∧ (nat_more.go b l c).2 < 4294967296 ∧
      Num.valN (nat_more.go b l c).1 + 4294967296 ^ l.length * (nat_more.go b l c).2.toNat = Num.valN l * b.toNat + c.toNat := by
  induction l with
  | nil => intro c h0 h1; simp [nat_more.go, Num.valN, h0, h1, Num.okW_nil]
  | cons x xs ih =>
    intro c h0 h1
    obtain ⟨⟨hx0, hx1⟩, hxs⟩ := Num.okW_cons.1 hl
    obtain ⟨B, rfl⟩ := Int.eq_ofNat_of_zero_le hb0
    obtain ⟨X, rfl⟩ := Int.eq_ofNat_of_zero_le hx0
    obtain ⟨C, rfl⟩ := Int.eq_ofNat_of_zero_le h0
    have hp : X * B ≤ 4294967295 * 4294967295 := Nat.mul_le_mul (by omega) (by omega)
    have e : IntKind.u64.wrap ((C : Int) + IntKind.u64.wrap (IntKind.u64.wrap (X : Int) * IntKind.u64.wrap (B : Int))) = ((C + X * B : Nat) : Int) := by
      rw [u64_id (x := (X : Int)) (by omega) (by omega), u64_id (x := (B : Int)) (by omega) (by omega), ← Int.natCast_mul, u64_id (x := ((X * B : Nat) : Int)) (by omega) (by omega), ← Int.natCast_add, u64_id (x := ((C + X * B : Nat) : Int)) (by omega) (by omega)]
    obtain ⟨T, hT⟩ : ∃ T, T = C + X * B := ⟨_, rfl⟩
    have hT1 : T < 18446744073709551616 := by omega
    simp only [nat_more.go, e, ← hT]
    have e2 : ((T : Int)) / 4294967296 = ((T / 4294967296 : Nat) : Int) := by omega
    have e3 : ((T : Int)) % 4294967296 = ((T % 4294967296 : Nat) : Int) := by omega
    rw [e2, e3]
    obtain ⟨i1, i2, i3, i4, i5⟩ := ih hxs ((T / 4294967296 : Nat) : Int) (by omega) (by omega)
    refine ⟨Num.okW_cons.2 ⟨by omega, i1⟩, by simp only [List.length_cons, i2], i3, i4, ?_⟩
    simp only [Num.valN, List.length_cons, Int.toNat_natCast] at i5 ⊢
    rw [Nat.pow_succ, Nat.add_mul, Nat.mul_comm (4294967296 ^ xs.length) 4294967296, Nat.mul_assoc, Nat.mul_assoc]
    have h2 : 4294967296 * (Num.valN (nat_more.go (B : Int) xs ((T / 4294967296 : Nat) : Int)).1 + 4294967296 ^ xs.length * (nat_more.go (B : Int) xs ((T / 4294967296 : Nat) : Int)).2.toNat) = 4294967296 * (Num.valN xs * B + T / 4294967296) := by rw [i5]
    rw [Nat.mul_add, Nat.mul_add] at h2
    omega

theorem more_val {b c : Int} (hb0 : 0 ≤ b) (hb1 : b < 4294967296) (hc0 : 0 ≤ c) (hc1 : c < 4294967296) {l : List Int} (hl : Num.okW l) (hlen : l.length ≤ 1000000000) :
    ∃ m, nat_more.f l b c = some m ∧ Num.okW m ∧ Num.valN m = Num.valN l * b.toNat + c.toNat ∧ m.length ≤ l.length + 1 := by
  unfold nat_more.f
  rw [if_pos (by omega), u64_id hc0 (by omega)]
  obtain ⟨i1, i2, i3, i4, i5⟩ := more_go b hb0 hb1 l hl c hc0 hc1
  by_cases h : 0 < (nat_more.go b l c).2
  · rw [if_pos h]
    refine ⟨_, rfl, Num.okW_append.2 ⟨i1, Num.okW_cons.2 ⟨by omega, Num.okW_nil⟩⟩, ?_, by simp [i2]⟩
    rw [Num.valN_append, i2, Int.emod_eq_of_lt i3 i4]
    simp only [Num.valN]
    omega
  · rw [if_neg h]
    refine ⟨_, rfl, i1, ?_, by omega⟩
    have : (nat_more.go b l c).2 = 0 := by omega
    rw [this] at i5
    simpa using i5

theorem bt_get (s : ByteArray) (i : Nat) (h : i < s.data.toList.length) : bt s (i : Int) = ((s.data.toList[i]).toNat : Int) := by
  have h' : i < s.size := by simpa using h
  unfold bt
  rw [dif_pos (by simpa using h')]
  simp [ByteArray.getElem_eq_getElem_data]

theorem toList_nil (s : ByteArray) : s.toList = [] ↔ s.size = 0 := by
  rw [Lib.toList_data, Lib.size_eq]
  exact List.length_eq_zero_iff.symm

/-- what a text reads as -/
def parseW (L : List UInt8) : List Int × Int :=
  if Num.digs L = false then ([], 3) else if L = [] then ([], 3) else if 5000 < L.length then ([], 2) else fitsW (Num.wordsN (Num.decL 0 L))

theorem decL_take_succ (L : List UInt8) (i : Nat) (h : i < L.length) : Num.decL 0 (L.take (i + 1)) = Num.decL 0 (L.take i) * 10 + (L[i].toNat - 48) := by
  rw [List.take_succ_eq_append_getElem h, Num.decL_append]
  rfl
theorem digs_take {L : List UInt8} (h : Num.digs L = true) (i : Nat) : Num.digs (L.take i) = true := by
  unfold Num.digs at *
  rw [List.all_eq_true] at *
  exact fun x hx => h x (List.mem_of_mem_take hx)
theorem digs_drop {L : List UInt8} (h : Num.digs L = true) (i : Nat) : Num.digs (L.drop i) = true := by
  unfold Num.digs at *
  rw [List.all_eq_true] at *
  exact fun x hx => h x (List.mem_of_mem_drop hx)

/-! nat.Parse -/
theorem parse_l2 (s : ByteArray) (L : List UInt8) (hL : s.data.toList = L) (hd : Num.digs L = true) (out : List Int) (n : Nat) (hn : n ≤ 9) (hnl : n ≤ L.length) (R : List Int × Int)
    (hR : Ev (fun k => (nat_more.f out ((10 ^ n : Nat) : Int) ((Num.decL 0 (L.take n) : Nat) : Int)).bind fun t => nat_Parse.l1 k (s.extract n s.size) t) R) (d : Nat) : ∀ i : Nat, i + d = n →
    Ev (fun k => nat_Parse.l2 k s out (n : Int) ((10 ^ i : Nat) : Int) ((Num.decL 0 (L.take i) : Nat) : Int) (n : Int) (i : Int)) R := by
  have hsz : s.size = L.length := by rw [← hL]; simp
  induction d with
  | zero =>
    intro i hi
    obtain rfl : i = n := by omega
    refine Ev.step (fun k => ?_) hR
    simp only [nat_Parse.l2]
    rw [if_neg (by omega)]
    congr 1
    funext t
    rw [if_pos (by omega), if_pos (by omega)]
    rfl
  | succ d ih =>
    intro i hi
    refine Ev.step (fun k => ?_) (ih (i + 1) (by omega))
    simp only [nat_Parse.l2]
    have hc := Num.digs_mem hd (L[i]'(by omega)) (List.getElem_mem _)
    have hb : bt s (i : Int) = ((L[i]'(by omega)).toNat : Int) := by
      subst hL
      exact bt_get s i (by omega)
    have hlt := Num.decL_lt (L.take i) (Num.digs_mem (digs_take hd i))
    rw [List.length_take, Nat.min_eq_left (by omega)] at hlt
    have hp : (10 : Nat) ^ i ≤ 10 ^ 8 := Nat.pow_le_pow_right (by decide) (by omega)
    rw [if_pos (by omega), if_pos (by omega), if_pos (by omega), hb, i64_id (by omega) (by omega)]
    have e1 : ((10 ^ i : Nat) : Int) * 10 % 4294967296 = ((10 ^ (i + 1) : Nat) : Int) := by
      rw [Nat.pow_succ]
      omega
    have e2 : (((Num.decL 0 (L.take i) : Nat) : Int) * 10 % 4294967296 + (((L[i]'(by omega)).toNat : Int) - 48) % 256) % 4294967296 = ((Num.decL 0 (L.take (i + 1)) : Nat) : Int) := by
      rw [decL_take_succ L i (by omega)]
      omega
    rw [e1, e2]
    rfl

theorem parse_l1 (m : Nat) : ∀ (s : ByteArray) (L : List UInt8) (out : List Int), s.data.toList = L → L.length = m → Num.digs L = true → Num.okW out → out.length + L.length ≤ 900000 →
    Ev (fun k => nat_Parse.l1 k s out) (fitsW (Num.wordsN (Num.decL (Num.valN out) L))) := by
  induction m using Nat.strongRecOn with
  | _ m ih =>
    intro s L out hL hm hd hok hlen
    have hsz : s.size = L.length := by rw [← hL]; simp
    by_cases h0 : L.length = 0
    · have hnil : L = [] := List.eq_nil_of_length_eq_zero h0
      refine Ev.step (f := fun k => (nat_fits.f k out).bind fun t => some (t.1, t.2)) (fun k => ?_) ?_
      · simp only [nat_Parse.l1]
        rw [if_neg (by omega)]
      · rw [hnil]
        show Ev _ (fitsW (Num.wordsN (Num.valN out)))
        rw [fitsW_val (Num.wordsN_ok _) hok (Num.wordsN_val _)]
        exact Ev.bind (ev_fits out (by omega)) (Ev.now _)
    · obtain ⟨n, hn⟩ : ∃ n, n = min L.length 9 := ⟨_, rfl⟩
      have hmn : mn (s.size : Int) 9 = (n : Int) := by unfold mn; split <;> omega
      have hlt := Num.decL_lt (L.take n) (Num.digs_mem (digs_take hd n))
      rw [List.length_take, Nat.min_eq_left (by omega)] at hlt
      have hp : (10 : Nat) ^ n ≤ 10 ^ 9 := Nat.pow_le_pow_right (by decide) (by omega)
      have hp0 : 0 < (10 : Nat) ^ n := Nat.pow_pos (by decide)
      obtain ⟨t, ht, hto, htv, htl⟩ := more_val (b := ((10 ^ n : Nat) : Int)) (c := ((Num.decL 0 (L.take n) : Nat) : Int)) (by omega) (by omega) (by omega) (by omega) hok (by omega)
      have hd2 : (s.extract n s.size).data.toList = L.drop n := by
        rw [← hL]
        exact Lib.extract_to_end s n
      have key := ih (L.length - n) (by omega) (s.extract n s.size) (L.drop n) t hd2 (by simp) (digs_drop hd n) hto (by simp; omega)
      have e : Num.decL (Num.valN t) (L.drop n) = Num.decL (Num.valN out) L := by
        rw [htv]
        have h3 : L = L.take n ++ L.drop n := (List.take_append_drop n L).symm
        conv => rhs; rw [h3, Num.decL_append, Num.decL_acc (Num.valN out) (L.take n), List.length_take, Nat.min_eq_left (show n ≤ L.length by omega)]
        simp only [Int.toNat_natCast]
      rw [e] at key
      refine Ev.step (f := fun k => nat_Parse.l2 k s out (n : Int) ((10 ^ 0 : Nat) : Int) ((Num.decL 0 (L.take 0) : Nat) : Int) (n : Int) ((0 : Nat) : Int)) (fun k => ?_) ?_
      · simp only [nat_Parse.l1]
        rw [if_pos (by omega), hmn]
        rfl
      · refine parse_l2 s L hL hd out n (by omega) (by omega) _ ?_ n 0 (by omega)
        rw [ht]
        exact key

theorem parse_l0 (s : ByteArray) (L : List UInt8) (hL : s.data.toList = L) (hlen : L.length ≤ 900000) (d : Nat) : ∀ i : Nat, i + d = L.length → Num.digs (L.take i) = true →
    Ev (fun k => nat_Parse.l0 k s (s.size : Int) (i : Int)) (parseW L) := by
  have hsz : s.size = L.length := by rw [← hL]; simp
  induction d with
  | zero =>
    intro i hi hd
    rw [List.take_of_length_le (by omega)] at hd
    have hnil := toList_nil s
    unfold parseW
    rw [if_neg (by rw [hd]; decide)]
    by_cases h0 : L = []
    · rw [if_pos h0]
      refine Ev.step (f := fun _ => some (([] : List Int), (3 : Int))) (fun k => ?_) (Ev.now _)
      simp only [nat_Parse.l0]
      rw [if_neg (by omega), if_pos (hnil.2 (by rw [hsz, h0]; rfl))]
    · rw [if_neg h0]
      have h1 : ¬ s.toList = [] := fun h => h0 (List.eq_nil_of_length_eq_zero (by rw [← hsz]; exact hnil.1 h))
      by_cases h5 : 5000 < L.length
      · rw [if_pos h5]
        refine Ev.step (f := fun _ => some (([] : List Int), (2 : Int))) (fun k => ?_) (Ev.now _)
        simp only [nat_Parse.l0]
        rw [if_neg (by omega), if_neg h1, if_pos (by omega)]
      · rw [if_neg h5]
        refine Ev.step (f := fun k => nat_Parse.l1 k s ([] : List Int)) (fun k => ?_) ?_
        · simp only [nat_Parse.l0]
          rw [if_neg (by omega), if_neg h1, if_neg (by omega)]
        · exact parse_l1 L.length s L [] hL rfl hd Num.okW_nil (by simp; omega)
  | succ d ih =>
    intro i hi hd
    have hb : bt s (i : Int) = ((L[i]'(by omega)).toNat : Int) := by
      subst hL
      exact bt_get s i (by omega)
    have hbad : ¬ (48 ≤ (L[i]'(by omega)).toNat ∧ (L[i]'(by omega)).toNat ≤ 57) → parseW L = ([], 3) := by
      intro h
      unfold parseW
      rw [if_pos]
      cases hq : Num.digs L with
      | false => rfl
      | true => exact absurd (Num.digs_mem hq _ (List.getElem_mem _)) h
    by_cases h1 : (L[i]'(by omega)).toNat < 48
    · rw [hbad (by omega)]
      refine Ev.step (f := fun _ => some (([] : List Int), (3 : Int))) (fun k => ?_) (Ev.now _)
      simp only [nat_Parse.l0]
      rw [if_pos (by omega), if_pos (by omega), if_pos (by omega), hb, if_pos (by omega)]
    · by_cases h2 : 57 < (L[i]'(by omega)).toNat
      · rw [hbad (by omega)]
        refine Ev.step (f := fun _ => some (([] : List Int), (3 : Int))) (fun k => ?_) (Ev.now _)
        simp only [nat_Parse.l0]
        rw [if_pos (by omega), if_pos (by omega), if_pos (by omega), hb, if_neg (by omega), if_pos (by omega)]
      · refine Ev.step (fun k => ?_) (ih (i + 1) (by omega) ?_)
        · simp only [nat_Parse.l0]
          rw [if_pos (by omega), if_pos (by omega), if_pos (by omega), hb, if_neg (by omega), if_neg (by omega), i64_id (by omega) (by omega)]
          rfl
        · rw [List.take_succ_eq_append_getElem (by omega)]
          unfold Num.digs at hd ⊢
          rw [List.all_append, hd]
          simp
          omega

theorem ev_parse (s : ByteArray) (hlen : s.size ≤ 900000) : Ev (fun k => nat_Parse.f k s) (parseW s.data.toList) := by
  unfold nat_Parse.f
  have := parse_l0 s s.data.toList rfl (by simpa using hlen) s.data.toList.length 0 (by omega) (by simp [Num.digs])
  simpa using this

theorem take_zero_step {l : List Int} {j : Nat} (hj : j < l.length) (h : rd l (j : Int) = 0) : Num.trimW (l.take (j + 1)) = Num.trimW (l.take j) := by
  rw [List.take_succ_eq_append_getElem hj]
  have e : l[j] = 0 := by simpa [rd, List.getD_eq_getElem?_getD, List.getElem?_eq_getElem hj] using h
  rw [e, Num.trimW_snoc_zero]
theorem take_ne_step {l : List Int} {j : Nat} (hj : j < l.length) (h : ¬ rd l (j : Int) = 0) : Num.trimW (l.take (j + 1)) = l.take (j + 1) := by
  rw [List.take_succ_eq_append_getElem hj]
  have e : l[j] ≠ 0 := by
    intro e
    apply h
    simpa [rd, List.getD_eq_getElem?_getD, List.getElem?_eq_getElem hj] using e
  rw [Num.trimW_snoc_ne _ e]

theorem rnorm_l0 (l : List Int) (hl : l.length ≤ 1000000000) : ∀ i : Nat, i ≤ l.length → Ev (fun k => bobbinref2_Norm.l0 k l (i : Int)) (Num.trimW (l.take i)) := by
  intro i
  induction i with
  | zero =>
    intro _
    refine Ev.step (f := fun _ => some (Num.trimW (l.take 0))) (fun k => ?_) (Ev.now _)
    simp only [bobbinref2_Norm.l0]
    rw [if_neg (by omega), if_pos (by omega), if_pos (by omega), if_pos (by simp)]
    simp [Num.trimW]
  | succ j ih =>
    intro hj
    have e1 : wrap64 (((j + 1 : Nat) : Int) - 1) = (j : Int) := by rw [i64_id (by omega) (by omega)]; omega
    by_cases h : rd l (j : Int) = 0
    · refine Ev.step (fun k => ?_) (by rw [take_zero_step (by omega) h]; exact ih (by omega))
      simp only [bobbinref2_Norm.l0]
      rw [if_pos (by omega), e1, if_pos (by omega), if_pos (by omega), if_pos h]
    · refine Ev.step (f := fun _ => some (Num.trimW (l.take (j + 1)))) (fun k => ?_) (Ev.now _)
      simp only [bobbinref2_Norm.l0]
      rw [if_pos (by omega), e1, if_pos (by omega), if_pos (by omega), if_neg h, if_pos (by omega), if_pos (by omega), if_pos (by simp; omega), take_ne_step (by omega) h]
      rfl
theorem ev_rnorm (l : List Int) (hl : l.length ≤ 1000000000) : Ev (fun k => bobbinref2_Norm.f k l) (Num.trimW l) := by
  unfold bobbinref2_Norm.f
  have := rnorm_l0 l hl l.length (Nat.le_refl _)
  rwa [List.take_length] at this

theorem rtrim_l0 (l : List Int) (hl : l.length ≤ 1000000000) : ∀ i : Nat, i ≤ l.length → Ev (fun k => bobbinref2_trimmed.l0 k l (i : Int)) (Num.trimW (l.take i)) := by
  intro i
  induction i with
  | zero =>
    intro _
    refine Ev.step (f := fun _ => some (Num.trimW (l.take 0))) (fun k => ?_) (Ev.now _)
    simp only [bobbinref2_trimmed.l0]
    rw [if_neg (by omega), if_pos (by omega), if_pos (by omega)]
    simp [Num.trimW]
  | succ j ih =>
    intro hj
    have e1 : wrap64 (((j + 1 : Nat) : Int) - 1) = (j : Int) := by rw [i64_id (by omega) (by omega)]; omega
    by_cases h : rd l (j : Int) = 0
    · refine Ev.step (fun k => ?_) (by rw [take_zero_step (by omega) h]; exact ih (by omega))
      simp only [bobbinref2_trimmed.l0]
      rw [if_pos (by omega), e1, if_pos (by omega), if_pos (by omega), if_pos h]
    · refine Ev.step (f := fun _ => some (Num.trimW (l.take (j + 1)))) (fun k => ?_) (Ev.now _)
      simp only [bobbinref2_trimmed.l0]
      rw [if_pos (by omega), e1, if_pos (by omega), if_pos (by omega), if_neg h, if_pos (by omega), if_pos (by omega), take_ne_step (by omega) h]
      rfl
theorem ev_rtrim (l : List Int) (hl : l.length ≤ 1000000000) : Ev (fun k => bobbinref2_trimmed.f k l) (Num.trimW l) := by
  unfold bobbinref2_trimmed.f
  have := rtrim_l0 l hl l.length (Nat.le_refl _)
  rwa [List.take_length] at this

/-! the reference's Parse -/
theorem rparse_l2 (s : ByteArray) (i : Nat) (R : List Int × Int) (m : List Int) (c0 : Int) (m' : List Int) (hm' : nat_more.f m 10 c0 = some m') (hlen : m.length ≤ 1000000) (hi : i ≤ 1000000)
    (hR : Ev (fun k => bobbinref2_Parse.l1 k s m' ((i + 1 : Nat) : Int)) R) (d : Nat) : ∀ (j : Nat) (cur : List Int) (c : Int), j + d = m.length → cur.length = m.length → nat_more.go 10 m (IntKind.u64.wrap c0) = (cur.take j ++ (nat_more.go 10 (cur.drop j) c).1, (nat_more.go 10 (cur.drop j) c).2) →
      Ev (fun k => bobbinref2_Parse.l2 k s cur (i : Int) c (j : Int)) R := by
  have e10 : IntKind.u64.wrap 10 = 10 := by decide
  induction d with
  | zero =>
    intro j cur c hj hc hg
    rw [List.take_of_length_le (by omega), List.drop_of_length_le (by omega)] at hg
    simp only [nat_more.go, List.append_nil] at hg
    unfold nat_more.f at hm'
    rw [if_pos (by omega), hg] at hm'
    simp only at hm'
    by_cases h : 0 < c
    · rw [if_pos h] at hm'
      obtain rfl := Option.some.inj hm'
      refine Ev.step (fun k => ?_) hR
      simp only [bobbinref2_Parse.l2]
      rw [if_neg (by omega), if_pos (by omega), if_pos (by omega), i64_id (by omega) (by omega)]
      rfl
    · rw [if_neg h] at hm'
      obtain rfl := Option.some.inj hm'
      refine Ev.step (fun k => ?_) hR
      simp only [bobbinref2_Parse.l2]
      rw [if_neg (by omega), if_neg (by omega), i64_id (by omega) (by omega)]
      rfl
  | succ d ih =>
    intro j cur c hj hc hg
    have hs := nat_more.step 10 c cur j (by omega)
    rw [hs] at hg
    have key := ih (j + 1) _ _ (by omega) (by rw [List.length_set]; exact hc) hg
    refine Ev.step (fun k => ?_) key
    simp only [bobbinref2_Parse.l2]
    rw [if_pos (by omega), if_pos (by omega), i64_id (by omega) (by omega), e10]
    simp only [Int.toNat_natCast]
    rfl

theorem rparse_l1 (s : ByteArray) (L : List UInt8) (hL : s.data.toList = L) (hd : Num.digs L = true) (hlen : L.length ≤ 5000) (d : Nat) : ∀ (i : Nat) (m : List Int), i + d = L.length → Num.okW m → m.length ≤ i →
    Ev (fun k => bobbinref2_Parse.l1 k s m (i : Int)) (fitsW (Num.wordsN (Num.decL (Num.valN m) (L.drop i)))) := by
  have hsz : s.size = L.length := by rw [← hL]; simp
  induction d with
  | zero =>
    intro i m hi hok hml
    rw [List.drop_of_length_le (by omega)]
    show Ev _ (fitsW (Num.wordsN (Num.valN m)))
    rw [fitsW_val (Num.wordsN_ok _) hok (Num.wordsN_val _)]
    refine Ev.step (f := fun k => (bobbinref2_Norm.f k m).bind fun t => if (t.length : Int) > 2000 then some ([], 2) else some (t, 0)) (fun k => ?_) (Ev.bind (ev_rnorm m (by omega)) ?_)
    · simp only [bobbinref2_Parse.l1]
      rw [if_neg (by omega)]
    · unfold fitsW
      by_cases h : 2000 < (Num.trimW m).length
      · rw [if_pos h]
        refine Ev.congr (fun k => ?_) (Ev.now _)
        rw [if_pos (by omega)]
      · rw [if_neg h]
        refine Ev.congr (fun k => ?_) (Ev.now _)
        rw [if_neg (by omega)]
  | succ d ih =>
    intro i m hi hok hml
    have hc := Num.digs_mem hd (L[i]'(by omega)) (List.getElem_mem _)
    have hb : bt s (i : Int) = ((L[i]'(by omega)).toNat : Int) := by
      subst hL
      exact bt_get s i (by omega)
    obtain ⟨c, hcc⟩ : ∃ c : Nat, c = (L[i]'(by omega)).toNat - 48 := ⟨_, rfl⟩
    obtain ⟨m', hm', ho', hv', hl'⟩ := more_val (b := 10) (c := (c : Int)) (by decide) (by decide) (by omega) (by omega) hok (by omega)
    have key := ih (i + 1) m' (by omega) ho' (by omega)
    have e : Num.decL (Num.valN m) (L.drop i) = Num.decL (Num.valN m') (L.drop (i + 1)) := by
      rw [List.drop_eq_getElem_cons (show i < L.length by omega), hv']
      show Num.decL (Num.valN m * 10 + ((L[i]'(by omega)).toNat - 48)) (L.drop (i + 1)) = _
      rw [← hcc]
      simp
    rw [e]
    refine Ev.step (f := fun k => bobbinref2_Parse.l2 k s m (i : Int) (c : Int) ((0 : Nat) : Int)) (fun k => ?_) ?_
    · simp only [bobbinref2_Parse.l1]
      rw [if_pos (by omega), if_pos (by omega), hb]
      have e2 : (((L[i]'(by omega)).toNat : Int) - 48) % 256 = (c : Int) := by omega
      rw [e2]
      rfl
    · refine rparse_l2 s i _ m (c : Int) m' hm' (by omega) (by omega) key m.length 0 m (c : Int) (by omega) rfl ?_
      rw [u64_id (by omega) (by omega)]
      simp

theorem rparse_l0 (s : ByteArray) (L : List UInt8) (hL : s.data.toList = L) (hne : L ≠ []) (hlen : L.length ≤ 900000) (d : Nat) : ∀ i : Nat, i + d = L.length → Num.digs (L.take i) = true →
    Ev (fun k => bobbinref2_Parse.l0 k s (i : Int)) (parseW L) := by
  have hsz : s.size = L.length := by rw [← hL]; simp
  induction d with
  | zero =>
    intro i hi hd
    rw [List.take_of_length_le (by omega)] at hd
    unfold parseW
    rw [if_neg (by rw [hd]; decide), if_neg hne]
    by_cases h5 : 5000 < L.length
    · rw [if_pos h5]
      refine Ev.step (f := fun _ => some (([] : List Int), (2 : Int))) (fun k => ?_) (Ev.now _)
      simp only [bobbinref2_Parse.l0]
      rw [if_neg (by omega), if_pos (by omega)]
    · rw [if_neg h5]
      refine Ev.step (f := fun k => bobbinref2_Parse.l1 k s ([] : List Int) ((0 : Nat) : Int)) (fun k => ?_) ?_
      · simp only [bobbinref2_Parse.l0]
        rw [if_neg (by omega), if_neg (by omega)]
        rfl
      · exact rparse_l1 s L hL hd (by omega) L.length 0 [] (by omega) Num.okW_nil (by simp)
  | succ d ih =>
    intro i hi hd
    have hb : bt s (i : Int) = ((L[i]'(by omega)).toNat : Int) := by
      subst hL
      exact bt_get s i (by omega)
    have hbad : ¬ (48 ≤ (L[i]'(by omega)).toNat ∧ (L[i]'(by omega)).toNat ≤ 57) → parseW L = ([], 3) := by
      intro h
      unfold parseW
      rw [if_pos]
      cases hq : Num.digs L with
      | false => rfl
      | true => exact absurd (Num.digs_mem hq _ (List.getElem_mem _)) h
    by_cases h1 : (L[i]'(by omega)).toNat < 48
    · rw [hbad (by omega)]
      refine Ev.step (f := fun _ => some (([] : List Int), (3 : Int))) (fun k => ?_) (Ev.now _)
      simp only [bobbinref2_Parse.l0]
      rw [if_pos (by omega), if_pos (by omega), hb, if_pos (by omega)]
    · by_cases h2 : 57 < (L[i]'(by omega)).toNat
      · rw [hbad (by omega)]
        refine Ev.step (f := fun _ => some (([] : List Int), (3 : Int))) (fun k => ?_) (Ev.now _)
        simp only [bobbinref2_Parse.l0]
        rw [if_pos (by omega), if_pos (by omega), hb, if_neg (by omega), if_pos (by omega)]
      · refine Ev.step (fun k => ?_) (ih (i + 1) (by omega) ?_)
        · simp only [bobbinref2_Parse.l0]
          rw [if_pos (by omega), if_pos (by omega), hb, if_neg (by omega), if_neg (by omega), i64_id (by omega) (by omega)]
          rfl
        · rw [List.take_succ_eq_append_getElem (by omega)]
          unfold Num.digs at hd ⊢
          rw [List.all_append, hd]
          simp
          omega

theorem ev_rparse (s : ByteArray) (hlen : s.size ≤ 900000) : Ev (fun k => bobbinref2_Parse.f k s) (parseW s.data.toList) := by
  unfold bobbinref2_Parse.f
  by_cases h0 : s.toList = []
  · refine Ev.congr (f := fun _ => some (([] : List Int), (3 : Int))) (fun k => by rw [if_pos h0]) ?_
    have : s.data.toList = [] := by rw [← Lib.toList_data]; exact h0
    rw [this]
    exact Ev.now _
  · refine Ev.congr (f := fun k => bobbinref2_Parse.l0 k s 0) (fun k => by rw [if_neg h0]) ?_
    have := rparse_l0 s s.data.toList rfl (by rw [← Lib.toList_data]; exact h0) (by simpa using hlen) s.data.toList.length 0 (by omega) (by simp [Num.digs])
    simpa using this

open Go.Proofs.YtkihjfpfocnneaaDoor.PNatO in
theorem otrim_l0 (l : List Int) (hl : l.length ≤ 1000000000) : ∀ i : Nat, i ≤ l.length → Ev (fun k => PNatO.bobbinref2_trimmed.l0 k l (i : Int)) (Num.trimW (l.take i)) := by
  intro i
  induction i with
  | zero =>
    intro _
    refine Ev.step (f := fun _ => some (Num.trimW (l.take 0))) (fun k => ?_) (Ev.now _)
    simp only [PNatO.bobbinref2_trimmed.l0]
    rw [if_neg (by omega), if_pos (by omega), if_pos (by omega)]
    simp [Num.trimW]
  | succ j ih =>
    intro hj
    have e1 : wrap64 (((j + 1 : Nat) : Int) - 1) = (j : Int) := by rw [i64_id (by omega) (by omega)]; omega
    by_cases h : rd l (j : Int) = 0
    · refine Ev.step (fun k => ?_) (by rw [take_zero_step (by omega) h]; exact ih (by omega))
      simp only [PNatO.bobbinref2_trimmed.l0]
      rw [if_pos (by omega), e1, if_pos (by omega), if_pos (by omega), if_pos h]
    · refine Ev.step (f := fun _ => some (Num.trimW (l.take (j + 1)))) (fun k => ?_) (Ev.now _)
      simp only [PNatO.bobbinref2_trimmed.l0]
      rw [if_pos (by omega), e1, if_pos (by omega), if_pos (by omega), if_neg h, if_pos (by omega), if_pos (by omega), take_ne_step (by omega) h]
      rfl
theorem ev_otrim (l : List Int) (hl : l.length ≤ 1000000000) : Ev (fun k => PNatO.bobbinref2_trimmed.f k l) (Num.trimW l) := by
  unfold PNatO.bobbinref2_trimmed.f
  have := otrim_l0 l hl l.length (Nat.le_refl _)
  rwa [List.take_length] at this
theorem onorm_l0 (l : List Int) (hl : l.length ≤ 1000000000) : ∀ i : Nat, i ≤ l.length → Ev (fun k => PNatO.bobbinref2_Norm.l0 k l (i : Int)) (Num.trimW (l.take i)) := by
  intro i
  induction i with
  | zero =>
    intro _
    refine Ev.step (f := fun _ => some (Num.trimW (l.take 0))) (fun k => ?_) (Ev.now _)
    simp only [PNatO.bobbinref2_Norm.l0]
    rw [if_neg (by omega), if_pos (by omega), if_pos (by omega), if_pos (by simp)]
    simp [Num.trimW]
  | succ j ih =>
    intro hj
    have e1 : wrap64 (((j + 1 : Nat) : Int) - 1) = (j : Int) := by rw [i64_id (by omega) (by omega)]; omega
    by_cases h : rd l (j : Int) = 0
    · refine Ev.step (fun k => ?_) (by rw [take_zero_step (by omega) h]; exact ih (by omega))
      simp only [PNatO.bobbinref2_Norm.l0]
      rw [if_pos (by omega), e1, if_pos (by omega), if_pos (by omega), if_pos h]
    · refine Ev.step (f := fun _ => some (Num.trimW (l.take (j + 1)))) (fun k => ?_) (Ev.now _)
      simp only [PNatO.bobbinref2_Norm.l0]
      rw [if_pos (by omega), e1, if_pos (by omega), if_pos (by omega), if_neg h, if_pos (by omega), if_pos (by omega), if_pos (by simp; omega), take_ne_step (by omega) h]
      rfl
theorem ev_onorm (l : List Int) (hl : l.length ≤ 1000000000) : Ev (fun k => PNatO.bobbinref2_Norm.f k l) (Num.trimW l) := by
  unfold PNatO.bobbinref2_Norm.f
  have := onorm_l0 l hl l.length (Nat.le_refl _)
  rwa [List.take_length] at this

theorem or_join {c x : Int} (hc0 : 0 ≤ c) (hc1 : c < 1000000000) (hx0 : 0 ≤ x) (hx1 : x < 4294967296) : bits .or .u64 (IntKind.u64.wrap (c * 4294967296)) (IntKind.u64.wrap x) = c * 4294967296 + x := by
  rw [u64_id (x := c * 4294967296) (by omega) (by omega), u64_id hx0 (by omega), u64_or _ _ (by omega) (by omega) (by omega) (by omega), nat_join 32 _ _ (by omega) (by omega)]
  omega

/-- nine digits of a piece, the lowest first -/
def rev9 (n : Int) : List Int := (List.range 9).map fun t => 48 + n / 10 ^ t % 10
theorem rev9_dg9 (n : Int) : (rev9 n).reverse.map (fun z => UInt8.ofNat z.toNat) = Num.dg9 n := by
  simp [rev9, Num.dg9, List.range, List.range.loop]
theorem div_10 (n : Int) (k : Nat) : n / 10 ^ k / 10 = n / 10 ^ (k + 1) := by
  rw [Int.ediv_ediv_of_nonneg (Int.pow_nonneg (by decide)), Int.pow_succ]

theorem rtext_l2 (m b : List Int) (c : Int) (hc0 : 0 ≤ c) (hc1 : c < 1000000000) (R : ByteArray) (hb : b.length ≤ 100000000) (hR : Ev (fun k => PNatO.bobbinref2_Text.l0 k m (b ++ rev9 c)) R) (d : Nat) : ∀ t : Nat, t + d = 9 →
    Ev (fun k => PNatO.bobbinref2_Text.l2 k m (b ++ (List.range t).map (fun t => 48 + c / 10 ^ t % 10)) (c / 10 ^ t) (t : Int)) R := by
  induction d with
  | zero =>
    intro t ht
    obtain rfl : t = 9 := by omega
    refine Ev.step (fun k => ?_) hR
    simp only [PNatO.bobbinref2_Text.l2]
    rw [if_neg (by omega)]
    rfl
  | succ d ih =>
    intro t ht
    have h0 : 0 ≤ c / 10 ^ t := Int.ediv_nonneg hc0 (Int.pow_nonneg (by decide))
    have h1 : c / 10 ^ t < 1000000000 := Int.lt_of_le_of_lt (Int.ediv_le_self _ hc0) hc1
    refine Ev.step (fun k => ?_) (ih (t + 1) (by omega))
    simp only [PNatO.bobbinref2_Text.l2]
    rw [if_pos (by omega), if_pos (by simp; omega), i64_id (by omega) (by omega), List.range_succ, List.map_append, ← List.append_assoc]
    have e1 : IntKind.u64.wrap (48 + (c / 10 ^ t).tmod 10) % 256 = 48 + c / 10 ^ t % 10 := by
      rw [Int.tmod_eq_emod_of_nonneg h0, u64_id (by omega) (by omega)]
      omega
    have e2 : IntKind.u64.wrap ((c / 10 ^ t).tdiv 10) = c / 10 ^ (t + 1) := by
      rw [Int.tdiv_eq_ediv_of_nonneg h0, u64_id (by omega) (by omega), div_10]
    rw [e1, e2]
    rfl

theorem rtext_l1 (ml b : List Int) (hok : Num.okW ml) (hlen : ml.length ≤ 1000000) (R : ByteArray)
    (hR : Ev (fun k => PNatO.bobbinref2_Text.l2 k (Num.trimW (Num.shq 1000000000 ml).1) b (Num.shq 1000000000 ml).2 0) R) : ∀ (j : Nat) (cur : List Int) (c : Int), j ≤ ml.length → cur.length = ml.length → cur.take j = ml.take j → cur.drop j = (Num.shq 1000000000 (ml.drop j)).1 → c = (Num.shq 1000000000 (ml.drop j)).2 →
      Ev (fun k => PNatO.bobbinref2_Text.l1 k cur b c ((j : Int) - 1)) R := by
  intro j
  induction j with
  | zero =>
    intro cur c hj hl ht hd hc
    have e1 : cur = (Num.shq 1000000000 ml).1 := by simpa using hd
    have e2 : c = (Num.shq 1000000000 ml).2 := by simpa using hc
    refine Ev.step (f := fun k => (PNatO.bobbinref2_trimmed.f k cur).bind fun t => PNatO.bobbinref2_Text.l2 k t b c 0) (fun k => ?_) ?_
    · simp only [PNatO.bobbinref2_Text.l1]
      rw [if_neg (by omega)]
    · refine Ev.bind (ev_otrim cur (by omega)) ?_
      rw [e1, e2]
      exact hR
  | succ j ih =>
    intro cur c hj hl ht hd hc
    have hr := Num.shq_rest (d := 1000000000) (by decide) (ml.drop (j + 1))
    rw [← hc] at hr
    have hx : rd cur (j : Int) = ml[j]'(by omega) := cur_get hl (by omega) ht
    have hxr := hok (ml[j]'(by omega)) (List.getElem_mem _)
    have e0 : (((j + 1 : Nat) : Int) - 1) = (j : Int) := by omega
    have hs := shq_cons_step 1000000000 ml j (by omega)
    rw [← hc] at hs
    have hq0 : 0 ≤ (c * 4294967296 + ml[j]'(by omega)) / 1000000000 := by omega
    have hq1 : (c * 4294967296 + ml[j]'(by omega)) / 1000000000 < 4294967296 := by omega
    refine Ev.step (fun k => ?_) (ih (cur.set j ((c * 4294967296 + ml[j]'(by omega)) / 1000000000)) ((c * 4294967296 + ml[j]'(by omega)) % 1000000000) (by omega) (by rw [List.length_set]; exact hl) (cur_take _ ht) ?_ ?_)
    · simp only [PNatO.bobbinref2_Text.l1]
      rw [e0, if_pos (by omega), if_pos (by omega), if_pos (by omega), hx, or_join hr.1 hr.2 hxr.1 hxr.2, Int.tdiv_eq_ediv_of_nonneg (by omega), Int.tmod_eq_emod_of_nonneg (by omega), u64_id (by omega) (by omega), Int.emod_eq_of_lt hq0 hq1, i64_id (by omega) (by omega)]
      rfl
    · rw [cur_drop _ (by omega), hd, hs]
    · rw [hs]

theorem rtext_l4 (b : List Int) (hb : b.length ≤ 100000000) : ∀ (i : Nat) (acc : List Int), i ≤ b.length → acc.length + i ≤ 100000000 →
    Ev (fun k => PNatO.bobbinref2_Text.l4 k b acc ((i : Int) - 1)) (strOfNums (acc ++ (b.take i).reverse)) := by
  intro i
  induction i with
  | zero =>
    intro acc _ _
    refine Ev.step (f := fun _ => some (strOfNums (acc ++ (b.take 0).reverse))) (fun k => ?_) (Ev.now _)
    simp only [PNatO.bobbinref2_Text.l4]
    rw [if_neg (by omega)]
    simp
  | succ i ih =>
    intro acc hi ha
    have e0 : (((i + 1 : Nat) : Int) - 1) = (i : Int) := by omega
    have hg : rd b (i : Int) = b[i]'(by omega) := by simp [rd, List.getD_eq_getElem?_getD, List.getElem?_eq_getElem (show i < b.length by omega)]
    have key := ih (acc ++ [b[i]'(by omega)]) (by omega) (by simp; omega)
    rw [List.take_succ_eq_append_getElem (show i < b.length by omega), List.reverse_append]
    rw [List.append_assoc] at key
    refine Ev.step (fun k => ?_) key
    simp only [PNatO.bobbinref2_Text.l4]
    rw [e0, if_pos (by omega), if_pos (by omega), if_pos (by omega), if_pos (by omega), hg, i64_id (by omega) (by omega)]

theorem rtext_j4 (b : List Int) (hb : b.length ≤ 90000000) (n : Nat) (hn : n ≤ b.length) : Ev (fun k => PNatO.bobbinref2_Text.j4 k b (n : Int)) (strOfNums (b.take n).reverse) := by
  refine Ev.step (f := fun k => PNatO.bobbinref2_Text.l4 k b [] ((n : Int) - 1)) (fun k => ?_) ?_
  · simp only [PNatO.bobbinref2_Text.j4]
    rw [i64_id (by omega) (by omega)]
  · exact rtext_l4 b (by omega) n [] hn (by simp; omega)

theorem rtext_l3 (b : List Int) (hb : b.length ≤ 90000000) : ∀ n : Nat, n ≤ b.length → (∃ c ∈ b.take n, c ≠ 48) →
    Ev (fun k => PNatO.bobbinref2_Text.l3 k b (n : Int)) (strOfNums ((b.take n).reverse.dropWhile (· == 48))) := by
  intro n
  induction n with
  | zero => rintro _ ⟨c, hc, _⟩; simp at hc
  | succ j ih =>
    rintro hn ⟨c, hc, hcne⟩
    have hg : rd b (j : Int) = b[j]'(by omega) := by simp [rd, List.getD_eq_getElem?_getD, List.getElem?_eq_getElem (show j < b.length by omega)]
    rw [List.take_succ_eq_append_getElem (show j < b.length by omega)] at hc
    by_cases h48 : b[j]'(by omega) = 48
    · have hc2 : c ∈ b.take j := by
        rcases List.mem_append.1 hc with h | h
        · exact h
        · simp only [List.mem_singleton] at h
          exact absurd (h.trans h48) hcne
      have hj : 0 < j := by
        rcases Nat.eq_zero_or_pos j with h | h
        · subst h; simp at hc2
        · exact h
      refine Ev.step (fun k => ?_) (by
        rw [List.take_succ_eq_append_getElem (show j < b.length by omega), h48, List.reverse_append]
        exact ih (by omega) ⟨c, hc2, hcne⟩)
      simp only [PNatO.bobbinref2_Text.l3]
      have e1 : wrap64 (((j + 1 : Nat) : Int) - 1) = (j : Int) := by rw [i64_id (by omega) (by omega)]; omega
      rw [if_pos (by omega), e1, if_pos (by omega), if_pos (by omega), hg, if_pos h48]
    · have e2 : (b.take (j + 1)).reverse.dropWhile (· == 48) = (b.take (j + 1)).reverse := by
        rw [List.take_succ_eq_append_getElem (show j < b.length by omega), List.reverse_append]
        simp [h48]
      rw [e2]
      refine Ev.step (fun k => ?_) (rtext_j4 b hb (j + 1) hn)
      simp only [PNatO.bobbinref2_Text.l3]
      by_cases h1 : 0 < j
      · have e1 : wrap64 (((j + 1 : Nat) : Int) - 1) = (j : Int) := by rw [i64_id (by omega) (by omega)]; omega
        rw [if_pos (by omega), e1, if_pos (by omega), if_pos (by omega), hg, if_neg h48]
      · rw [if_neg (by omega)]

theorem rtext_l0 (v : Nat) : ∀ (ml b : List Int), Num.valN ml = v → Num.okW ml → Num.normed ml → ml.length ≤ 1000000 → b.length + 9 * (Num.pcs v).length ≤ 90000000 → (∃ c ∈ b ++ (Num.pcs v).flatMap rev9, c ≠ 48) →
    Ev (fun k => PNatO.bobbinref2_Text.l0 k ml b) (strOfNums ((b ++ (Num.pcs v).flatMap rev9).reverse.dropWhile (· == 48))) := by
  induction v using Nat.strongRecOn with
  | _ v ih =>
    intro ml b hv hok hn hlen hb hex
    by_cases hm : ml = []
    · subst hm
      have hv0 : v = 0 := hv.symm
      subst hv0
      rw [Num.pcs_zero] at hex hb ⊢
      simp only [List.flatMap_nil, List.append_nil] at hex ⊢
      have key := rtext_l3 b (by simp at hb; omega) b.length (Nat.le_refl _) (by rw [List.take_length]; exact hex)
      rw [List.take_length] at key
      refine Ev.step (fun k => ?_) key
      simp only [PNatO.bobbinref2_Text.l0]
      rw [if_neg (by simp)]
    · have hpos : 0 < v := by
        rcases Nat.eq_zero_or_pos v with h | h
        · exact absurd (by rw [← hn]; exact (Num.valN_zero hok).1 (hv.trans h)) hm
        · exact h
      have hlp : 0 < ml.length := List.length_pos_iff.2 hm
      obtain ⟨e1, e2⟩ := Num.shq_val (d := 1000000000) (by decide) hok
      have e3 : Num.valN (Num.trimW (Num.shq 1000000000 ml).1) = v / 1000000000 := by rw [Num.trimW_val, e1, hv]; rfl
      have e4 : (Num.shq 1000000000 ml).2 = ((v % 1000000000 : Nat) : Int) := by rw [e2, hv]; rfl
      have hr := Num.shq_rest (d := 1000000000) (by decide) ml
      rw [Num.pcs_pos hpos] at hex hb ⊢
      simp only [List.flatMap_cons, List.length_cons] at hex hb ⊢
      rw [← e4] at hex ⊢
      rw [← List.append_assoc] at hex ⊢
      have hr9 : (rev9 (Num.shq 1000000000 ml).2).length = 9 := by simp [rev9]
      have key := ih (v / 1000000000) (Nat.div_lt_self hpos (by decide)) (Num.trimW (Num.shq 1000000000 ml).1) (b ++ rev9 (Num.shq 1000000000 ml).2) e3 (Num.okW_trim (Num.shq_ok (by decide) hok)) (Num.normed_trim _)
        (by have := Num.trimW_length_le (Num.shq 1000000000 ml).1; rw [Num.shq_length] at this; omega) (by rw [List.length_append, hr9]; omega) hex
      have h2 := rtext_l2 (Num.trimW (Num.shq 1000000000 ml).1) b (Num.shq 1000000000 ml).2 hr.1 hr.2 _ (by omega) key 9 0 (by omega)
      have h2' := h2
      simp only [List.range_zero, List.map_nil, List.append_nil, Int.pow_zero, Int.ediv_one] at h2'
      have h1 := rtext_l1 ml b hok hlen _ h2' ml.length ml 0 (Nat.le_refl _) rfl rfl (by simp [Num.shq]) (by simp [Num.shq])
      refine Ev.step (fun k => ?_) h1
      simp only [PNatO.bobbinref2_Text.l0]
      rw [if_pos (by omega), i64_id (by omega) (by omega)]

theorem pcs_ne (v : Nat) (h : 0 < v) : ∃ z ∈ Num.pcs v, 0 < z ∧ z < 1000000000 := by
  induction v using Nat.strongRecOn with
  | _ v ih =>
    rw [Num.pcs_pos h]
    by_cases h1 : v % 1000000000 = 0
    · obtain ⟨z, hz, h2⟩ := ih (v / 1000000000) (Nat.div_lt_self h (by decide)) (by omega)
      exact ⟨z, List.mem_cons_of_mem _ hz, h2⟩
    · exact ⟨_, List.mem_cons_self, by omega⟩
theorem rev9_ne (z : Int) (h0 : 0 < z) (h1 : z < 1000000000) : ∃ c ∈ rev9 z, c ≠ 48 := by
  apply Classical.byContradiction
  intro hn
  have key : ∀ t, t < 9 → z / 10 ^ t % 10 = 0 := by
    intro t ht
    apply Classical.byContradiction
    intro h
    exact hn ⟨48 + z / 10 ^ t % 10, List.mem_map.2 ⟨t, List.mem_range.2 ht, rfl⟩, by omega⟩
  have k0 := key 0 (by decide); have k1 := key 1 (by decide); have k2 := key 2 (by decide); have k3 := key 3 (by decide); have k4 := key 4 (by decide)
  have k5 := key 5 (by decide); have k6 := key 6 (by decide); have k7 := key 7 (by decide); have k8 := key 8 (by decide)
  simp only [Int.pow_zero, Int.reducePow] at k0 k1 k2 k3 k4 k5 k6 k7 k8
  omega

theorem dropWhile_map (l : List Int) (h : ∀ z ∈ l, 0 ≤ z ∧ z < 256) : (l.dropWhile (· == 48)).map (fun z => UInt8.ofNat z.toNat) = (l.map (fun z => UInt8.ofNat z.toNat)).dropWhile (· == 48) := by
  induction l with
  | nil => rfl
  | cons z zs ih =>
    have hz := h z List.mem_cons_self
    have ih := ih (fun x hx => h x (List.mem_cons_of_mem _ hx))
    by_cases e : z = 48
    · subst e
      simpa using ih
    · have e2 : ¬ UInt8.ofNat z.toNat = 48 := by
        intro h2
        have := congrArg UInt8.toNat h2
        rw [UInt8.toNat_ofNat_of_lt' (by simp [UInt8.size]; omega)] at this
        have h3 : (48 : UInt8).toNat = 48 := rfl
        omega
      simp [e, e2]

theorem ev_rtext (l : List Int) (hok : Num.okW l) (hlen : l.length ≤ 1000000) : Ev (fun k => bobbinref2_Text.f k l) ⟨(Num.textN (Num.valN l)).toArray⟩ := by
  unfold bobbinref2_Text.f PNatO.bobbinref2_Text.f
  refine Ev.bind (ev_onorm l (by omega)) ?_
  by_cases h0 : Num.valN l = 0
  · have e := (Num.valN_zero hok).1 h0
    rw [e, h0]
    exact Ev.now _
  · have hne : Num.trimW l ≠ [] := fun h => h0 ((Num.valN_zero hok).2 h)
    have hpos : ¬ ((Num.trimW l).length : Int) = 0 := by
      have := List.length_pos_iff.2 hne
      omega
    refine Ev.congr (f := fun k => PNatO.bobbinref2_Text.l0 k (Num.trimW l) []) (fun k => by rw [if_neg hpos]) ?_
    have hpl : (Num.pcs (Num.valN l)).length ≤ 2 * l.length := Num.pcs_len _ _ (by rw [Nat.pow_mul]; exact Num.valN_lt hok)
    obtain ⟨z, hz, hz0, hz1⟩ := pcs_ne (Num.valN l) (by omega)
    obtain ⟨c, hc, hc48⟩ := rev9_ne z hz0 hz1
    have key := rtext_l0 (Num.valN l) (Num.trimW l) [] (Num.trimW_val l) (Num.okW_trim hok) (Num.normed_trim l) (by have := Num.trimW_length_le l; omega) (by simp; omega) ⟨c, by simpa using ⟨z, hz, hc⟩, hc48⟩
    have e : strOfNums (([] ++ (Num.pcs (Num.valN l)).flatMap rev9).reverse.dropWhile (· == 48)) = ⟨(Num.textN (Num.valN l)).toArray⟩ := by
      unfold strOfNums Num.textN
      rw [if_neg h0, List.nil_append, dropWhile_map _ (by
        intro y hy
        rw [List.mem_reverse] at hy
        obtain ⟨z, _, hy⟩ := List.mem_flatMap.1 hy
        obtain ⟨t, _, rfl⟩ := List.mem_map.1 hy
        have h1 := Int.emod_nonneg (z / 10 ^ t) (show (10 : Int) ≠ 0 by decide)
        have h2 := Int.emod_lt_of_pos (z / 10 ^ t) (show (0 : Int) < 10 by decide)
        omega), List.reverse_flatMap, List.map_flatMap]
      congr 3
    rw [← e]
    exact key

theorem okW_all {l : List Int} (h : Num.okW l) : (l.all fun x => decide (0 ≤ x) && decide (x < 4294967296)) = true := by
  rw [List.all_eq_true]
  intro x hx
  have := h x hx
  simp only [Bool.and_eq_true, decide_eq_true_eq]
  exact this
theorem text_f {l : List Int} (h : Num.okW l) (hl : l.length ≤ 1000000) : nat_Text.f l = some ⟨(Num.textN (Num.valN l)).toArray⟩ := by
  unfold nat_Text.f
  rw [if_pos ⟨okW_all h, hl⟩]
theorem parseW_ok (L : List UInt8) : Num.okW (parseW L).1 := by
  unfold parseW
  split
  · exact Num.okW_nil
  · split
    · exact Num.okW_nil
    · split
      · exact Num.okW_nil
      · unfold fitsW
        split
        · exact Num.okW_nil
        · exact Num.okW_trim (Num.wordsN_ok _)
theorem parseW_len (L : List UInt8) : (parseW L).1.length ≤ 2000 := by
  unfold parseW
  split
  · exact Nat.zero_le _
  · split
    · exact Nat.zero_le _
    · split
      · exact Nat.zero_le _
      · unfold fitsW
        split
        · exact Nat.zero_le _
        · exact Nat.le_of_not_lt ‹_›
theorem words_two : Num.wordsN 4294967296 = [0, 1] := by
  rw [Num.wordsN_pos (by decide)]
  rw [show 4294967296 / 4294967296 = 1 from rfl, Num.wordsN_pos (by decide), show 1 / 4294967296 = 0 from rfl, Num.wordsN_zero]
  rfl
theorem parse_two : parseW [52, 50, 57, 52, 57, 54, 55, 50, 57, 54] = ([0, 1], 0) := by
  unfold parseW
  rw [if_neg (by decide), if_neg (by decide), if_neg (by decide), show Num.decL 0 [52, 50, 57, 52, 57, 54, 55, 50, 57, 54] = 4294967296 from by decide, words_two]
  rfl
theorem text_two : Num.textN 4294967296 = [52, 50, 57, 52, 57, 54, 55, 50, 57, 54] := by
  unfold Num.textN
  rw [if_neg (by decide), Num.pcs_pos (by decide), show 4294967296 / 1000000000 = 4 from rfl, Num.pcs_pos (by decide), show 4 / 1000000000 = 0 from rfl, Num.pcs_zero]
  decide
theorem ev_awake : Ev (fun k => bobbinlaw2_awake.f k) true := by
  unfold bobbinlaw2_awake.f
  have hp := ev_parse (⟨#[52, 50, 57, 52, 57, 54, 55, 50, 57, 54]⟩ : ByteArray) (by decide)
  rw [show parseW (⟨#[52, 50, 57, 52, 57, 54, 55, 50, 57, 54]⟩ : ByteArray).data.toList = ([0, 1], 0) from parse_two] at hp
  refine Ev.bind hp ?_
  simp only [if_true]
  refine Ev.bind (ev_same_self [0, 1] (by decide)) ?_
  simp only [if_true]
  refine Ev.congr (f := fun _ => some true) (fun k => ?_) (Ev.now _)
  rw [text_f (by intro x hx; simp at hx; omega) (by decide), show Num.valN [0, 1] = 4294967296 from by decide, text_two]
  rw [Option.bind_some, Lib.toList_data]
  rfl
theorem reads_ev (a0 : ByteArray) (h : a0.size ≤ 2600) : Ev (fun k => bobbinlaw2_NatReads.f k a0) true := by
  unfold bobbinlaw2_NatReads.f
  have hn : ¬ ((a0.size : Int) > 2600) := by omega
  simp only [if_neg hn]
  refine Ev.bind (ev_parse a0 (by omega)) ?_
  refine Ev.bind (ev_rparse a0 (by omega)) ?_
  have hok := parseW_ok a0.data.toList
  have hl := parseW_len a0.data.toList
  generalize parseW a0.data.toList = p at hok hl
  refine Ev.bind (ev_same_self p.1 (by omega)) ?_
  simp only [if_true]
  by_cases h0 : p.2 = 0
  · simp only [if_pos h0]
    simp only [text_f hok (show p.1.length ≤ 1000000 by omega), Option.bind_some]
    refine Ev.bind (ev_rtext p.1 hok (by omega)) ?_
    simp only [if_true]
    exact Ev.bind ev_awake (Ev.now _)
  · simp only [if_neg h0]
    exact Ev.bind ev_awake (Ev.now _)
theorem natReads_pure : bobbinlaw2_NatReads.Pure := by
  intro a0 _
  have key : Ev (fun k => bobbinlaw2_NatReads.f k a0) true := by
    by_cases h : a0.size ≤ 2600
    · exact reads_ev a0 h
    · unfold bobbinlaw2_NatReads.f
      simp only [if_pos (show (a0.size : Int) > 2600 by omega)]
      exact Ev.bind ev_awake (Ev.now true)
  obtain ⟨K, h⟩ := key
  exact ⟨K, h K (Nat.le_refl _)⟩

end Go.Proofs.YtkihjfpfocnneaaDoor.Pure

/- Products: nat's and the reference's answer alike. -/
namespace Go.Proofs.YtkihjfpfocnneaaDoor.Pure
open Go.RowKit Go.Proofs.YtkihjfpfocnneaaDoor.PNat Go.Proofs.YtkihjfpfocnneaaDoorW.PrintWords Go.Proofs.YtkihjfpfocnneaaDoorW.PrintLast Go.Proofs.YtkihjfpfocnneaaDoorW.PrintMore
set_option linter.unusedVariables false
set_option linter.unusedSimpArgs false
theorem ev_rlarge (l : List Int) (hl : l.length ≤ 1000000000) : Ev (fun k => bobbinref2_large.f k l) (decide (2000 < (Num.trimW l).length)) := by
  unfold bobbinref2_large.f
  refine Ev.bind (ev_rtrim l hl) ?_
  refine Ev.congr (f := fun _ => some (decide (2000 < (Num.trimW l).length))) (fun k => ?_) (Ev.now _)
  congr 1
  exact decide_eq_decide.2 ⟨fun h => by omega, fun h => by omega⟩
theorem fitsW_len (l : List Int) : (fitsW l).1.length ≤ 2000 := by
  unfold fitsW
  split
  · exact Nat.zero_le _
  · exact Nat.le_of_not_lt ‹_›
theorem ev_rfit (l : List Int) (hl : l.length ≤ 1000000000) : Ev (fun k => (bobbinref2_Norm.f k l).bind fun t => if (t.length : Int) > 2000 then some (([] : List Int), (2 : Int)) else some (t, 0)) (fitsW l) := by
  refine Ev.bind (ev_rnorm l hl) ?_
  unfold fitsW
  by_cases h : 2000 < (Num.trimW l).length
  · simp only [if_pos h, if_pos (show ((Num.trimW l).length : Int) > 2000 by omega)]
    exact Ev.now _
  · simp only [if_neg h, if_neg (show ¬ ((Num.trimW l).length : Int) > 2000 by omega)]
    exact Ev.now _
theorem ev_fitb (l : List Int) (hl : l.length ≤ 1000000000) : Ev (fun k => (nat_fits.f k l).bind fun bt => some (bt.1, bt.2)) (fitsW l) :=
  Ev.bind (ev_fits l hl) (Ev.now _)
theorem mul_digit (c x y z : Int) : IntKind.u64.wrap (c + (IntKind.u64.wrap (IntKind.u64.wrap (x * y) + z))) = IntKind.u64.wrap (IntKind.u64.wrap (c + IntKind.u64.wrap (x * y)) + z) := by
  show _ % 18446744073709551616 = _ % 18446744073709551616
  show (c + (x * y % 18446744073709551616 + z) % 18446744073709551616) % 18446744073709551616 = ((c + x * y % 18446744073709551616) % 18446744073709551616 + z) % 18446744073709551616
  generalize x * y = p
  omega
theorem mul_l1 (x0 x1 : List Int) (h0 : x0.length ≤ 2000) (h1 : x1.length ≤ 2000) (i : Nat) (hi : i < x0.length)
    (K : ∀ x6 : List Int, x6.length = x0.length + x1.length → ∃ R : List Int × Int, R.1.length ≤ 2000 ∧ Ev (fun k => nat_Mul.l0 k x1 x6 x0 (x0.length : Int) ((i + 1 : Nat) : Int)) R ∧ Ev (fun k => bobbinref2_Mul.l0 k x0 x1 x6 ((i + 1 : Nat) : Int)) R) (d : Nat) :
    ∀ (j : Nat) (x6 : List Int) (c : Int), j + d = x1.length → x6.length = x0.length + x1.length →
      ∃ R : List Int × Int, R.1.length ≤ 2000 ∧ Ev (fun k => nat_Mul.l1 k x1 x6 (i : Int) (rd x0 (i : Int)) c x0 (x0.length : Int) (i : Int) x1 (x1.length : Int) (j : Int)) R ∧ Ev (fun k => bobbinref2_Mul.l1 k x0 x1 x6 (i : Int) c (j : Int)) R := by
  induction d with
  | zero =>
    intro j x6 c hj hl
    obtain ⟨R, hR, e1, e2⟩ := K (x6.set (i + x1.length) (c % 4294967296)) (by rw [List.length_set]; exact hl)
    refine ⟨R, hR, Ev.step (fun k => ?_) e1, Ev.step (fun k => ?_) e2⟩
    · simp only [nat_Mul.l1]
      rw [if_neg (by omega), i64_id (show -9223372036854775808 ≤ (i : Int) + (x1.length : Int) by omega) (by omega), if_pos (by omega), if_pos (by omega), i64_id (show -9223372036854775808 ≤ (i : Int) + 1 by omega) (by omega)]
      rfl
    · simp only [bobbinref2_Mul.l1]
      rw [if_neg (by omega), i64_id (show -9223372036854775808 ≤ (i : Int) + (x1.length : Int) by omega) (by omega), if_pos (by omega), if_pos (by omega), i64_id (show -9223372036854775808 ≤ (i : Int) + 1 by omega) (by omega)]
      rfl
  | succ d ih =>
    intro j x6 c hj hl
    obtain ⟨R, hR, e1, e2⟩ := ih (j + 1) (x6.set (i + j) (IntKind.u64.wrap (c + (IntKind.u64.wrap (IntKind.u64.wrap (IntKind.u64.wrap (rd x0 (i : Int)) * IntKind.u64.wrap (rd x1 (j : Int))) + IntKind.u64.wrap (rd x6 ((i : Int) + (j : Int)))))) % 4294967296))
      (IntKind.u64.wrap (c + (IntKind.u64.wrap (IntKind.u64.wrap (IntKind.u64.wrap (rd x0 (i : Int)) * IntKind.u64.wrap (rd x1 (j : Int))) + IntKind.u64.wrap (rd x6 ((i : Int) + (j : Int)))))) / 4294967296) (by omega) (by rw [List.length_set]; exact hl)
    refine ⟨R, hR, Ev.step (fun k => ?_) e1, Ev.step (fun k => ?_) e2⟩
    · simp only [nat_Mul.l1]
      rw [if_pos (by omega), if_pos (by omega), if_pos (by omega), i64_id (show -9223372036854775808 ≤ (i : Int) + (j : Int) by omega) (by omega), if_pos (by omega), if_pos (by omega), i64_id (show -9223372036854775808 ≤ (j : Int) + 1 by omega) (by omega)]
      rfl
    · simp only [bobbinref2_Mul.l1]
      rw [if_pos (by omega), if_pos (by omega), if_pos (by omega), if_pos (by omega), i64_id (show -9223372036854775808 ≤ (i : Int) + (j : Int) by omega) (by omega), if_pos (by omega), if_pos (by omega), i64_id (show -9223372036854775808 ≤ (j : Int) + 1 by omega) (by omega), mul_digit]
      rfl
theorem mul_l0 (x0 x1 : List Int) (h0 : x0.length ≤ 2000) (h1 : x1.length ≤ 2000) (d : Nat) : ∀ (i : Nat) (x6 : List Int), i + d = x0.length → x6.length = x0.length + x1.length →
    ∃ R : List Int × Int, R.1.length ≤ 2000 ∧ Ev (fun k => nat_Mul.l0 k x1 x6 x0 (x0.length : Int) (i : Int)) R ∧ Ev (fun k => bobbinref2_Mul.l0 k x0 x1 x6 (i : Int)) R := by
  induction d with
  | zero =>
    intro i x6 hi hl
    refine ⟨fitsW x6, fitsW_len x6, Ev.step (fun k => ?_) (ev_fitb x6 (by omega)), Ev.step (fun k => ?_) (ev_rfit x6 (by omega))⟩
    · simp only [nat_Mul.l0]
      rw [if_neg (by omega)]
    · simp only [bobbinref2_Mul.l0]
      rw [if_neg (by omega)]
  | succ d ih =>
    intro i x6 hi hl
    obtain ⟨R, hR, e1, e2⟩ := mul_l1 x0 x1 h0 h1 i (by omega) (fun y hy => ih (i + 1) y (by omega) hy) x1.length 0 x6 0 (by omega) hl
    refine ⟨R, hR, Ev.step (fun k => ?_) e1, Ev.step (fun k => ?_) e2⟩
    · simp only [nat_Mul.l0]
      rw [if_pos (by omega), if_pos (by omega), if_pos (by omega)]
      rfl
    · simp only [bobbinref2_Mul.l0]
      rw [if_pos (by omega)]
      rfl
theorem mul_rel (l0 l1 : List Int) (h0 : l0.length ≤ 1000000000) (h1 : l1.length ≤ 1000000000) : ∃ R : List Int × Int, R.1.length ≤ 2000 ∧ Ev (fun k => nat_Mul.f k l0 l1) R ∧ Ev (fun k => bobbinref2_Mul.f k l0 l1) R := by
  have two : ∀ b : Bool, (b = true ∨ ((Num.trimW l0).length ≤ 2000 ∧ (Num.trimW l1).length ≤ 2000)) → ∃ R : List Int × Int, R.1.length ≤ 2000 ∧ Ev (fun k => nat_Mul.j0 k l0 l1 b) R ∧ Ev (fun k => bobbinref2_Mul.j0 k l0 l1 b) R := by
    intro b hb
    cases b with
    | true =>
      refine ⟨(([] : List Int), 2), by simp, Ev.step (f := fun _ => some (([] : List Int), (2 : Int))) (fun k => ?_) (Ev.now _), Ev.step (f := fun _ => some (([] : List Int), (2 : Int))) (fun k => ?_) (Ev.now _)⟩
      · simp only [nat_Mul.j0, if_true]
      · simp only [bobbinref2_Mul.j0, if_true]
    | false =>
      obtain ⟨k0, k1⟩ := hb.resolve_left (by decide)
      obtain ⟨R, hR, e1, e2⟩ := mul_l0 (Num.trimW l0) (Num.trimW l1) k0 k1 (Num.trimW l0).length 0 (List.replicate ((Num.trimW l0).length + (Num.trimW l1).length) 0) (by omega) (by rw [List.length_replicate])
      have ew : wrap64 (((Num.trimW l0).length : Int) + ((Num.trimW l1).length : Int)) = (((Num.trimW l0).length + (Num.trimW l1).length : Nat) : Int) := by rw [i64_id (by omega) (by omega)]; omega
      refine ⟨R, hR, ?_, ?_⟩
      · refine Ev.step (f := fun k => (nat_trim.f k l0).bind fun t192 => ((nat_trim.f k l1).bind fun t195 => (if 0 ≤ (wrap64 ((t192.length : Int) + (t195.length : Int))) then (if (wrap64 ((t192.length : Int) + (t195.length : Int)) : Int).toNat ≤ 70368744177664 then (nat_Mul.l0 k t195 (List.replicate (wrap64 ((t192.length : Int) + (t195.length : Int)) : Int).toNat 0) t192 (t192.length : Int) 0) else (none)) else (none)))) (fun k => ?_) ?_
        · simp only [nat_Mul.j0, Bool.false_eq_true, if_false]
        · refine Ev.bind (ev_trim l0 h0) (Ev.bind (ev_trim l1 h1) ?_)
          rw [ew]
          simp only [Int.toNat_natCast, if_pos (show (0 : Int) ≤ (((Num.trimW l0).length + (Num.trimW l1).length : Nat) : Int) by omega), if_pos (show (Num.trimW l0).length + (Num.trimW l1).length ≤ 70368744177664 by omega)]
          exact e1
      · refine Ev.step (f := fun k => (bobbinref2_trimmed.f k l0).bind fun t215 => ((bobbinref2_trimmed.f k l1).bind fun t218 => (if 0 ≤ (wrap64 ((t215.length : Int) + (t218.length : Int))) then (if (wrap64 ((t215.length : Int) + (t218.length : Int)) : Int).toNat ≤ 70368744177664 then (bobbinref2_Mul.l0 k t215 t218 (List.replicate (wrap64 ((t215.length : Int) + (t218.length : Int)) : Int).toNat 0) 0) else (none)) else (none)))) (fun k => ?_) ?_
        · simp only [bobbinref2_Mul.j0, Bool.false_eq_true, if_false]
        · refine Ev.bind (ev_rtrim l0 h0) (Ev.bind (ev_rtrim l1 h1) ?_)
          rw [ew]
          simp only [Int.toNat_natCast, if_pos (show (0 : Int) ≤ (((Num.trimW l0).length + (Num.trimW l1).length : Nat) : Int) by omega), if_pos (show (Num.trimW l0).length + (Num.trimW l1).length ≤ 70368744177664 by omega)]
          exact e2
  by_cases c0 : 2000 < (Num.trimW l0).length
  · obtain ⟨R, hR, e1, e2⟩ := two true (.inl rfl)
    refine ⟨R, hR, ?_, ?_⟩
    · unfold nat_Mul.f
      refine Ev.bind (ev_large l0 h0) ?_
      simp only [decide_eq_true c0, if_true]
      exact e1
    · unfold bobbinref2_Mul.f
      refine Ev.bind (ev_rlarge l0 h0) ?_
      simp only [decide_eq_true c0, if_true]
      exact e2
  · obtain ⟨R, hR, e1, e2⟩ := two (decide (2000 < (Num.trimW l1).length)) (by
      by_cases c1 : 2000 < (Num.trimW l1).length
      · exact .inl (decide_eq_true c1)
      · exact .inr ⟨by omega, by omega⟩)
    refine ⟨R, hR, ?_, ?_⟩
    · unfold nat_Mul.f
      refine Ev.bind (ev_large l0 h0) ?_
      simp only [decide_eq_false c0, Bool.false_eq_true, if_false]
      exact Ev.bind (ev_large l1 h1) e1
    · unfold bobbinref2_Mul.f
      refine Ev.bind (ev_rlarge l0 h0) ?_
      simp only [decide_eq_false c0, Bool.false_eq_true, if_false]
      exact Ev.bind (ev_rlarge l1 h1) e2

theorem rd_app (q : Nat) (l : List Int) (i : Nat) : rd (List.replicate q 0 ++ l) ((i + q : Nat) : Int) = rd l (i : Int) := by
  unfold rd
  rw [Int.toNat_natCast, Int.toNat_natCast, List.getD_eq_getElem?_getD, List.getD_eq_getElem?_getD, List.getElem?_append_right (by simp), List.length_replicate, Nat.add_sub_cancel]
theorem set_app (q : Nat) (l : List Int) (i : Nat) (v : Int) : (List.replicate q 0 ++ l).set (i + q) v = List.replicate q 0 ++ l.set i v := by
  rw [List.set_append_right _ _ (by simp)]
  simp
theorem rd_set_ne (l : List Int) (i u : Nat) (v : Int) (h : i ≠ u) : rd (l.set i v) (u : Int) = rd l (u : Int) := by
  simp [rd, List.getD_eq_getElem?_getD, List.getElem?_set_ne h]
theorem rd_set_eq (l : List Int) (i : Nat) (v : Int) (h : i < l.length) : rd (l.set i v) (i : Int) = v := by
  simp [rd, List.getD_eq_getElem?_getD, h]
theorem or_zero_l {v : Int} (h0 : 0 ≤ v) (h1 : v < 4294967296) : bits .or .u32 0 v = v := by
  rw [u32_or 0 v (by decide) (by decide) h0 h1]
  simp
  omega
theorem or_zero_m (a : Int) : bits .or .u32 0 (a % 4294967296) = a % 4294967296 := or_zero_l (by omega) (by omega)
theorem tdiv32 (m : Nat) : Int.tdiv (m : Int) 32 = ((m / 32 : Nat) : Int) := rfl
theorem tmod32 (m : Nat) : Int.tmod (m : Int) 32 = ((m % 32 : Nat) : Int) := rfl
theorem shl_l0 (t : List Int) (ht : t.length ≤ 2000) (m : Int) (q r : Nat) (hq : Aside0 (wrap64 (Int.tdiv m 32) = (q : Int))) (hr : Aside0 (Int.tmod m 32 = (r : Int))) (hq2 : q ≤ 2000) (d : Nat) : ∀ (i : Nat) (x5 : List Int), i + d = t.length → x5.length = t.length + 1 → (∀ u : Nat, i < u → rd x5 (u : Int) = 0) →
    ∃ R : List Int, R.length = t.length + 1 ∧ Ev (fun k => nat_moved.l0 k (r : Int) x5 t (t.length : Int) (i : Int)) R ∧ Ev (fun k => bobbinref2_Shift.l0 k t m (List.replicate q 0 ++ x5) (i : Int)) (fitsW (List.replicate q 0 ++ R)) := by
  induction d with
  | zero =>
    intro i x5 hi hl hz
    refine ⟨x5, hl, Ev.step (f := fun _ => some x5) (fun k => ?_) (Ev.now _), Ev.step (fun k => ?_) (ev_rfit (List.replicate q 0 ++ x5) (by simp; omega))⟩
    · simp only [nat_moved.l0]
      rw [if_neg (by omega)]
    · simp only [bobbinref2_Shift.l0]
      rw [if_neg (by omega)]
  | succ d ih =>
    intro i x5 hi hl hz
    obtain ⟨R, hR, e1, e2⟩ := ih (i + 1) ((x5.set i (bits .or .u32 (rd x5 (i : Int)) (shl .u64 (IntKind.u64.wrap (rd t (i : Int))) (r : Int) % 4294967296))).set (i + 1) (shl .u64 (IntKind.u64.wrap (rd t (i : Int))) (r : Int) / 4294967296 % 4294967296)) (by omega) (by rw [List.length_set, List.length_set]; exact hl) (by
      intro u hu
      rw [rd_set_ne _ _ _ _ (by omega), rd_set_ne _ _ _ _ (by omega)]
      exact hz u (by omega))
    have ei : wrap64 ((i : Int) + 1) = ((i + 1 : Nat) : Int) := by rw [i64_id (by omega) (by omega)]; rfl
    refine ⟨R, hR, Ev.step (fun k => ?_) e1, Ev.step (fun k => ?_) e2⟩
    · simp only [nat_moved.l0]
      rw [if_pos (by omega), if_pos (by omega), if_pos (by omega), if_pos (by omega), if_pos (by omega), ei, if_pos (by omega), if_pos (by omega), Int.toNat_natCast, Int.toNat_natCast]
    · simp only [bobbinref2_Shift.l0]
      have e3 : wrap64 ((i : Int) + (q : Int)) = ((i + q : Nat) : Int) := by rw [i64_id (by omega) (by omega)]; omega
      have e4 : wrap64 (((i + q : Nat) : Int) + 1) = ((i + 1 + q : Nat) : Int) := by rw [i64_id (by omega) (by omega)]; omega
      have hll : ((List.replicate q (0 : Int) ++ x5).length : Int) = (q : Nat) + (t.length : Int) + 1 := by rw [List.length_append, List.length_replicate, hl]; omega
      rw [if_pos (by omega), if_pos (by omega), hr.out, if_pos (by omega), hq.out, e3, if_pos (by omega), if_pos (by omega), e4, ei, Option.bind_some, if_pos (by omega), if_pos (by omega), rd_app, Int.toNat_natCast, Int.toNat_natCast, set_app, rd_app, set_app, rd_set_ne _ _ _ _ (by omega), hz (i + 1) (by omega), or_zero_m]
theorem moved_ev (t : List Int) (ht : t.length ≤ 2000) (r : Int) (R : List Int) (h : Ev (fun k => nat_moved.l0 k r (List.replicate (t.length + 1) 0) t (t.length : Int) 0) R) : Ev (fun k => nat_moved.f k t r) R := by
  unfold nat_moved.f
  have e : wrap64 ((t.length : Int) + 1) = ((t.length + 1 : Nat) : Int) := by rw [i64_id (by omega) (by omega)]; rfl
  rw [e]
  simp only [Int.toNat_natCast, if_pos (show (0 : Int) ≤ ((t.length + 1 : Nat) : Int) by omega), if_pos (show t.length + 1 ≤ 70368744177664 by omega)]
  exact h
/-- moved by none -/
theorem moved_none (t : List Int) (hok : Num.okW t) (ht : t.length ≤ 2000) (d : Nat) : ∀ (i : Nat), i + d = t.length →
    Ev (fun k => nat_moved.l0 k 0 (t.take i ++ List.replicate (d + 1) 0) t (t.length : Int) (i : Int)) (t ++ [0]) := by
  induction d with
  | zero =>
    intro i hi
    refine Ev.step (f := fun _ => some (t ++ [0])) (fun k => ?_) (Ev.now _)
    simp only [nat_moved.l0]
    rw [if_neg (by omega), List.take_of_length_le (by omega)]
    rfl
  | succ d ih =>
    intro i hi
    have hx := hok (t[i]'(by omega)) (List.getElem_mem _)
    have hr : rd t (i : Int) = t[i]'(by omega) := by simp [rd, List.getD_eq_getElem?_getD, List.getElem?_eq_getElem (show i < t.length by omega)]
    have hr0 : rd (t.take i ++ List.replicate (d + 1 + 1) 0) (i : Int) = 0 := by
      simp [rd, List.getD_eq_getElem?_getD, List.getElem?_append_right, Nat.min_eq_left (show i ≤ t.length by omega)]
    have hs : shl .u64 (IntKind.u64.wrap (rd t (i : Int))) 0 = t[i]'(by omega) := by
      rw [hr, u64_id hx.1 (by omega)]
      show IntKind.u64.wrap (t[i]'(by omega) * 2 ^ min (Int.toNat 0) 64) = _
      simp
      exact u64_id hx.1 (by omega)
    have hlen : (t.take i ++ List.replicate (d + 1 + 1) (0 : Int)).length = t.length + 1 := by simp; omega
    have ei : wrap64 ((i : Int) + 1) = ((i + 1 : Nat) : Int) := by rw [i64_id (by omega) (by omega)]; rfl
    refine Ev.step (fun k => ?_) (ih (i + 1) (by omega))
    simp only [nat_moved.l0]
    rw [if_pos (by omega), if_pos (by omega), if_pos (by omega), if_pos (by omega), hlen, if_pos (by omega), ei, if_pos (by omega), if_pos (by omega), hr0, hs, or_zero_l (by omega) (by omega), Int.toNat_natCast, Int.toNat_natCast]
    congr 1
    rw [show t[i]'(by omega) % 4294967296 = t[i]'(by omega) by omega, show t[i]'(by omega) / 4294967296 % 4294967296 = 0 by omega, List.take_succ_eq_append_getElem (by omega)]
    have hti : (t.take i).length = i := by simp; omega
    rw [List.set_append_right _ _ (by omega), List.set_append_right _ _ (by omega), hti, List.replicate_succ, Nat.sub_self, List.set_cons_zero, List.replicate_succ, show i + 1 - i = 1 from by omega, List.set_cons_succ, List.set_cons_zero, List.append_assoc]
    rfl
/-- one word of a row that moves right -/
def rsh (t : List Int) (r : Int) (i : Nat) : Int := if i + 1 < t.length then shr .u64 (bits .or .u64 (IntKind.u64.wrap (rd t (i : Int))) (IntKind.u64.wrap (IntKind.u64.wrap (rd t ((i + 1 : Nat) : Int)) * 4294967296))) r % 4294967296 else shr .u64 (IntKind.u64.wrap (rd t (i : Int))) r % 4294967296
def rshs (t : List Int) (r : Int) (n : Nat) : List Int := (List.range n).map (rsh t r)
theorem rshs_succ (t : List Int) (r : Int) (n : Nat) : rshs t r (n + 1) = rshs t r n ++ [rsh t r n] := by simp [rshs, List.range_succ]
theorem rshs_len (t : List Int) (r : Int) (n : Nat) : (rshs t r n).length = n := by simp [rshs]
theorem shr_l0 (y : List Int) (hy : y.length ≤ 2000) (r : Nat) (d : Nat) : ∀ i : Nat, i + d = y.length →
    Ev (fun k => nat_Shift.l0 k y (r : Int) (rshs y (r : Int) i ++ List.replicate d 0) y (y.length : Int) (i : Int)) (Num.trimW (rshs y (r : Int) y.length), 0) := by
  induction d with
  | zero =>
    intro i hi
    obtain rfl : i = y.length := by omega
    refine Ev.step (f := fun k => (nat_trim.f k (rshs y (r : Int) y.length)).bind fun t => some (t, 0)) (fun k => ?_) (Ev.bind (ev_trim _ (by rw [rshs_len]; omega)) (Ev.now _))
    simp only [nat_Shift.l0]
    rw [if_neg (by omega), List.replicate_zero, List.append_nil]
  | succ d ih =>
    intro i hi
    have ei : wrap64 ((i : Int) + 1) = ((i + 1 : Nat) : Int) := by rw [i64_id (by omega) (by omega)]; rfl
    have hlen : (rshs y (r : Int) i ++ List.replicate (d + 1) (0 : Int)).length = y.length := by rw [List.length_append, rshs_len, List.length_replicate]; omega
    have hset : ∀ v, (rshs y (r : Int) i ++ List.replicate (d + 1) (0 : Int)).set i v = rshs y (r : Int) i ++ [v] ++ List.replicate d 0 := by
      intro v
      rw [List.set_append_right _ _ (by rw [rshs_len]; exact Nat.le_refl _), rshs_len, Nat.sub_self, List.replicate_succ, List.set_cons_zero, List.append_assoc]
      rfl
    refine Ev.step (fun k => ?_) (ih (i + 1) (by omega))
    simp only [nat_Shift.l0]
    rw [if_pos (by omega), if_pos (by omega), if_pos (by omega), ei, hlen, Int.toNat_natCast, hset, hset, rshs_succ]
    unfold rsh
    by_cases h : i + 1 < y.length
    · rw [if_pos (by omega), if_pos (by omega), if_pos (by omega), if_pos (by omega), if_pos h]
    · rw [if_neg (by omega), if_pos (by omega), if_pos (by omega), if_neg h]
theorem rd_drop (t : List Int) (q i : Nat) : rd (t.drop q) (i : Int) = rd t ((q + i : Nat) : Int) := by
  unfold rd
  rw [Int.toNat_natCast, Int.toNat_natCast, List.getD_eq_getElem?_getD, List.getD_eq_getElem?_getD, List.getElem?_drop]
theorem shr_l1 (t : List Int) (ht : t.length ≤ 2000) (m : Nat) (hm : m < 64000) (d : Nat) : ∀ i : Nat, i + d = (t.drop (m / 32)).length →
    Ev (fun k => bobbinref2_Shift.l1 k t (m : Int) (rshs (t.drop (m / 32)) ((m % 32 : Nat) : Int) i) ((m / 32 + i : Nat) : Int)) (Num.trimW (rshs (t.drop (m / 32)) ((m % 32 : Nat) : Int) (t.drop (m / 32)).length), 0) := by
  have hdl : (t.drop (m / 32)).length = t.length - m / 32 := List.length_drop
  induction d with
  | zero =>
    intro i hi
    obtain rfl : i = (t.drop (m / 32)).length := by omega
    refine Ev.step (f := fun k => (bobbinref2_Norm.f k (rshs (t.drop (m / 32)) ((m % 32 : Nat) : Int) (t.drop (m / 32)).length)).bind fun t => some (t, 0)) (fun k => ?_) (Ev.bind (ev_rnorm _ (by rw [rshs_len]; omega)) (Ev.now _))
    simp only [bobbinref2_Shift.l1]
    rw [if_neg (by omega)]
  | succ d ih =>
    intro i hi
    have ei : wrap64 (((m / 32 + i : Nat) : Int) + 1) = ((m / 32 + (i + 1) : Nat) : Int) := by rw [i64_id (by omega) (by omega)]; omega
    refine Ev.step (fun k => ?_) (ih (i + 1) (by omega))
    simp only [bobbinref2_Shift.l1]
    rw [if_pos (by omega), if_pos (by omega), ei, tmod32, rshs_len, rshs_succ]
    unfold rsh
    rw [rd_drop, rd_drop]
    by_cases h : i + 1 < (t.drop (m / 32)).length
    · rw [if_pos (by omega), if_pos (by omega), if_pos (by omega), if_pos (by omega), if_pos h]
    · rw [if_neg (by omega), if_pos (by omega), if_pos (by omega), if_neg h]

theorem wt0 : wrap64 (Int.tdiv 0 32) = 0 := by rw [show Int.tdiv 0 32 = 0 by decide, i64_id (by decide) (by decide)]
theorem wn0 : wrap64 (-0) = 0 := by rw [Int.neg_zero, i64_id (by decide) (by decide)]
theorem shift_big (l t : List Int) (n : Int) : ∃ R : List Int × Int, R.1.length ≤ 2000 ∧ Ev (fun k => nat_Shift.j0 k t n true) R ∧ Ev (fun k => bobbinref2_Shift.j0 k l n true) R := by
  refine ⟨(([] : List Int), 2), by simp, Ev.step (f := fun _ => some (([] : List Int), (2 : Int))) (fun k => ?_) (Ev.now _), Ev.step (f := fun _ => some (([] : List Int), (2 : Int))) (fun k => ?_) (Ev.now _)⟩
  · simp only [nat_Shift.j0, if_true]
  · simp only [bobbinref2_Shift.j0, if_true]
theorem shift_in (l : List Int) (hok : Num.okW l) (hl : l.length ≤ 1000000000) (ht : (Num.trimW l).length ≤ 2000) (n : Int) (hn : n ≤ 64000) (hn0 : -9223372036854775808 ≤ n) :
    ∃ R : List Int × Int, R.1.length ≤ 2000 ∧ Ev (fun k => nat_Shift.j0 k (Num.trimW l) n false) R ∧ Ev (fun k => bobbinref2_Shift.j0 k l n false) R := by
  have hokt := Num.okW_trim hok
  have hid := Num.trimW_idem l
  generalize hT : Num.trimW l = t at ht hokt hid ⊢
  by_cases hpos : 0 < n
  · obtain ⟨m, rfl⟩ : ∃ m : Nat, n = (m : Int) := ⟨n.toNat, by omega⟩
    have eq : Aside0 (wrap64 (Int.tdiv (m : Int) 32) = ((m / 32 : Nat) : Int)) := ⟨by rw [tdiv32, i64_id (by omega) (by omega)]⟩
    obtain ⟨R, hR, e1, e2⟩ := shl_l0 t ht (m : Int) (m / 32) (m % 32) eq ⟨rfl⟩ (by omega) t.length 0 (List.replicate (t.length + 1) 0) (by omega) (by simp) (by intro u _; simp [rd, List.getD_eq_getElem?_getD, List.getElem?_replicate]; split <;> rfl)
    refine ⟨fitsW (List.replicate (m / 32) 0 ++ R), fitsW_len _, ?_, ?_⟩
    · refine Ev.step (f := fun k => (nat_moved.f k t ((m % 32 : Nat) : Int)).bind fun u => (nat_fits.f k (List.replicate (m / 32) 0 ++ u)).bind fun bt => if (List.replicate (m / 32) (0 : Int)).length + u.length < 35184372088832 then some (bt.1, bt.2) else none) (fun k => ?_) ?_
      · simp only [nat_Shift.j0, Bool.false_eq_true, if_false]
        rw [if_pos (by omega), eq.out, tmod32, if_pos (by omega), Int.toNat_natCast, if_pos (by omega), Option.bind_some]
        congr 1
        funext u
        split
        · rfl
        · cases nat_fits.f k (List.replicate (m / 32) 0 ++ u) <;> rfl
      · refine Ev.bind (moved_ev t ht _ R e1) (Ev.bind (ev_fits _ (by simp; omega)) ?_)
        simp only [List.length_replicate, hR, if_pos (show m / 32 + (t.length + 1) < 35184372088832 by omega)]
        exact Ev.now _
    · refine Ev.step (f := fun k => (bobbinref2_trimmed.f k l).bind fun u => if (0 : Int) ≤ wrap64 (wrap64 ((u.length : Int) + ((m / 32 : Nat) : Int)) + 1) then (if (wrap64 (wrap64 ((u.length : Int) + ((m / 32 : Nat) : Int)) + 1)).toNat ≤ 70368744177664 then bobbinref2_Shift.l0 k u (m : Int) (List.replicate (wrap64 (wrap64 ((u.length : Int) + ((m / 32 : Nat) : Int)) + 1)).toNat 0) 0 else none) else none) (fun k => ?_) ?_
      · simp only [bobbinref2_Shift.j0, Bool.false_eq_true, if_false, eq.out]
        congr 1
        funext u
        rw [if_pos (show (m : Int) > 0 by omega)]
      · refine Ev.bind (ev_rtrim l hl) ?_
        have ew : wrap64 (wrap64 ((t.length : Int) + ((m / 32 : Nat) : Int)) + 1) = ((m / 32 + (t.length + 1) : Nat) : Int) := by rw [i64_id (x := (t.length : Int) + _) (by omega) (by omega), i64_id (by omega) (by omega)]; omega
        rw [hT, ew]
        simp only [Int.toNat_natCast, if_pos (show (0 : Int) ≤ ((m / 32 + (t.length + 1) : Nat) : Int) by omega), if_pos (show m / 32 + (t.length + 1) ≤ 70368744177664 by omega), show List.replicate (m / 32 + (t.length + 1)) (0 : Int) = List.replicate (m / 32) 0 ++ List.replicate (t.length + 1) 0 from (List.replicate_append_replicate ..).symm]
        exact e2
  · by_cases hz : n = 0
    · subst hz
      refine ⟨(t, 0), ht, ?_, ?_⟩
      · have em := moved_ev t ht 0 (t ++ [0]) (by simpa using moved_none t hokt ht t.length 0 (by omega))
        refine Ev.step (f := fun k => (nat_moved.f k t 0).bind fun u => (nat_fits.f k u).bind fun bt => if u.length < 35184372088832 then some (bt.1, bt.2) else none) (fun k => ?_) ?_
        · simp only [nat_Shift.j0, Bool.false_eq_true, if_false]
          rw [if_pos (by omega), wt0, show Int.tmod 0 32 = 0 by decide, if_pos (by omega), if_pos (by decide), Option.bind_some]
          congr 1
          funext u
          simp only [Int.toNat_zero, List.replicate_zero, List.nil_append, List.length_nil, Nat.zero_add]
          split
          · rfl
          · cases nat_fits.f k u <;> rfl
        · refine Ev.bind em (Ev.bind (ev_fits _ (by simp; omega)) ?_)
          have ef : fitsW (t ++ [0]) = (t, 0) := by
            unfold fitsW
            rw [Num.trimW_snoc_zero, hid, if_neg (by omega)]
          rw [ef]
          simp only [List.length_append, List.length_singleton, if_pos (show t.length + 1 < 35184372088832 by omega)]
          exact Ev.now _
      · refine Ev.step (f := fun k => (bobbinref2_trimmed.f k l).bind fun u => bobbinref2_Shift.l1 k u 0 ([] : List Int) 0) (fun k => ?_) ?_
        · simp only [bobbinref2_Shift.j0, Bool.false_eq_true, if_false]
          congr 1
          funext u
          rw [if_neg (by omega), if_neg (by omega), wn0, wt0]
        · refine Ev.bind (ev_rtrim l hl) ?_
          rw [hT]
          have e := shr_l1 t ht 0 (by omega) t.length 0 (by simp)
          have hr : rshs t 0 t.length = t := by
            refine List.ext_getElem (rshs_len _ _ _) fun i h1 h2 => ?_
            have hx := hokt t[i] (List.getElem_mem _)
            have hrd : rd t (i : Int) = t[i] := by simp [rd, List.getD_eq_getElem?_getD, List.getElem?_eq_getElem h2]
            simp only [rshs, List.getElem_map, List.getElem_range]
            unfold rsh
            rw [hrd, u64_id hx.1 (by omega)]
            split
            · rename_i h3
              have hy := hokt (t[i + 1]'h3) (List.getElem_mem _)
              have hrd1 : rd t ((i + 1 : Nat) : Int) = t[i + 1]'h3 := by
                simp only [rd, Int.toNat_natCast, List.getD_eq_getElem?_getD, List.getElem?_eq_getElem h3]
                rfl
              rw [hrd1, u64_id (x := t[i + 1]'h3) hy.1 (by omega), u64_id (x := _ * 4294967296) (by omega) (by omega), u64_or _ _ (by omega) (by omega) (by omega) (by omega), Nat.or_comm, nat_join 32 _ _ (by omega) (by omega)]
              show ((_ : Nat) : Int) / 2 ^ min (Int.toNat 0) 64 % 4294967296 = _
              simp
              omega
            · show t[i] / 2 ^ min (Int.toNat 0) 64 % 4294967296 = _
              simp
              omega
          simp only [Nat.zero_div, List.drop_zero, Nat.zero_mod, Int.natCast_zero, hr, hid] at e
          exact e
    · obtain ⟨m, rfl⟩ : ∃ m : Nat, n = -(m : Int) := ⟨(-n).toNat, by omega⟩
      have e32 : wrap64 (-32 * (t.length : Int)) = -32 * (t.length : Int) := i64_id (by omega) (by omega)
      by_cases hq : -(m : Int) ≤ -32 * (t.length : Int)
      · refine ⟨(([] : List Int), 0), by simp, Ev.step (f := fun _ => some (([] : List Int), (0 : Int))) (fun k => ?_) (Ev.now _), ?_⟩
        · simp only [nat_Shift.j0, Bool.false_eq_true, if_false]
          rw [if_neg (by omega), e32, if_pos hq]
        · by_cases h64 : -(m : Int) ≤ -64000
          · refine Ev.step (f := fun k => (bobbinref2_trimmed.f k l).bind fun u => some (([] : List Int), (0 : Int))) (fun k => ?_) (Ev.bind (ev_rtrim l hl) (Ev.now _))
            simp only [bobbinref2_Shift.j0, Bool.false_eq_true, if_false]
            congr 1
            funext u
            rw [if_neg (by omega), if_pos (by omega)]
          · have em : wrap64 (- -(m : Int)) = (m : Int) := by rw [i64_id (by omega) (by omega)]; omega
            have eq : Aside0 (wrap64 (Int.tdiv (m : Int) 32) = ((m / 32 : Nat) : Int)) := ⟨by rw [tdiv32, i64_id (by omega) (by omega)]⟩
            have e := shr_l1 t ht m (by omega) 0 0 (by rw [List.length_drop]; omega)
            have hd : (t.drop (m / 32)).length = 0 := by rw [List.length_drop]; omega
            rw [hd] at e
            refine Ev.step (f := fun k => (bobbinref2_trimmed.f k l).bind fun u => bobbinref2_Shift.l1 k u (m : Int) ([] : List Int) ((m / 32 : Nat) : Int)) (fun k => ?_) ?_
            · simp only [bobbinref2_Shift.j0, Bool.false_eq_true, if_false]
              congr 1
              funext u
              rw [if_neg (by omega), if_neg (by omega), em, eq.out]
            · refine Ev.bind (ev_rtrim l hl) ?_
              rw [hT]
              exact e
      · have hm64 : m < 64000 := by omega
        have em : wrap64 (- -(m : Int)) = (m : Int) := by rw [i64_id (by omega) (by omega)]; omega
        have eq : Aside0 (wrap64 (Int.tdiv (m : Int) 32) = ((m / 32 : Nat) : Int)) := ⟨by rw [tdiv32, i64_id (by omega) (by omega)]⟩
        have e1 := shr_l0 (t.drop (m / 32)) (by rw [List.length_drop]; omega) (m % 32) (t.drop (m / 32)).length 0 (by omega)
        have e2 := shr_l1 t ht m hm64 (t.drop (m / 32)).length 0 (by omega)
        refine ⟨(Num.trimW (rshs (t.drop (m / 32)) ((m % 32 : Nat) : Int) (t.drop (m / 32)).length), 0), ?_, ?_, ?_⟩
        · have h1 := Num.trimW_length_le (rshs (t.drop (m / 32)) ((m % 32 : Nat) : Int) (t.drop (m / 32)).length)
          rw [rshs_len, List.length_drop] at h1
          show (Num.trimW (rshs (t.drop (m / 32)) ((m % 32 : Nat) : Int) (t.drop (m / 32)).length)).length ≤ 2000
          rw [List.length_drop]
          omega
        · refine Ev.step (fun k => ?_) e1
          simp only [nat_Shift.j0, Bool.false_eq_true, if_false]
          rw [if_neg (by omega), e32, if_neg hq, em, eq.out, if_pos (by omega), if_pos (by omega), Option.bind_some, if_pos (by omega), Int.toNat_natCast, Int.toNat_natCast, if_pos (by rw [List.length_drop]; omega), tmod32]
          rfl
        · refine Ev.step (f := fun k => (bobbinref2_trimmed.f k l).bind fun u => bobbinref2_Shift.l1 k u (m : Int) ([] : List Int) ((m / 32 : Nat) : Int)) (fun k => ?_) ?_
          · simp only [bobbinref2_Shift.j0, Bool.false_eq_true, if_false]
            congr 1
            funext u
            rw [if_neg (by omega), if_neg (by omega), em, eq.out]
          · refine Ev.bind (ev_rtrim l hl) ?_
            rw [hT]
            exact e2
theorem shift_rel (l : List Int) (hok : Num.okW l) (hl : l.length ≤ 1000000000) (n : Int) (hn0 : -9223372036854775808 ≤ n) :
    ∃ R : List Int × Int, R.1.length ≤ 2000 ∧ Ev (fun k => nat_Shift.f k l n) R ∧ Ev (fun k => bobbinref2_Shift.f k l n) R := by
  have hl' : (Num.trimW l).length ≤ 1000000000 := Nat.le_trans (Num.trimW_length_le l) hl
  have hlg := ev_large (Num.trimW l) hl'
  rw [Num.trimW_idem] at hlg
  by_cases c0 : 2000 < (Num.trimW l).length
  · obtain ⟨R, hR, e1, e2⟩ := shift_big l (Num.trimW l) n
    refine ⟨R, hR, ?_, ?_⟩
    · unfold nat_Shift.f
      refine Ev.bind (ev_trim l hl) (Ev.bind hlg ?_)
      simp only [decide_eq_true c0, if_true]
      exact e1
    · unfold bobbinref2_Shift.f
      refine Ev.bind (ev_rlarge l hl) ?_
      simp only [decide_eq_true c0, if_true]
      exact e2
  · have key : ∃ R : List Int × Int, R.1.length ≤ 2000 ∧ Ev (fun k => nat_Shift.j0 k (Num.trimW l) n (decide (n > 64000))) R ∧ Ev (fun k => bobbinref2_Shift.j0 k l n (decide (n > 64000))) R := by
      by_cases c1 : n > 64000
      · rw [decide_eq_true c1]
        exact shift_big l (Num.trimW l) n
      · rw [decide_eq_false c1]
        exact shift_in l hok hl (by omega) n (by omega) hn0
    obtain ⟨R, hR, e1, e2⟩ := key
    refine ⟨R, hR, ?_, ?_⟩
    · unfold nat_Shift.f
      refine Ev.bind (ev_trim l hl) (Ev.bind hlg ?_)
      simp only [decide_eq_false c0, Bool.false_eq_true, if_false]
      exact e1
    · unfold bobbinref2_Shift.f
      refine Ev.bind (ev_rlarge l hl) ?_
      simp only [decide_eq_false c0, Bool.false_eq_true, if_false]
      exact e2

theorem long_l0 (n w s : Int) (hn : n ≤ 2100) (hw : 0 ≤ w ∧ w < 4294967296) (hs : -9223372036854775808 ≤ s) (d : Nat) : ∀ (i : Nat) (l : List Int), (i : Int) + d = n → l.length = i → Num.okW l →
    Ev (fun k => bobbinlaw2_NatLong.l0 k n w s l (i : Int)) true := by
  induction d with
  | zero =>
    intro i l hi hl hok
    obtain ⟨R, hR, e1, e2⟩ := mul_rel l [w] (by omega) (by simp)
    obtain ⟨R', hR', f1, f2⟩ := shift_rel l hok (by omega) s hs
    refine Ev.step (f := fun k => (nat_Mul.f k l [w]).bind fun bt341 => ((bobbinref2_Mul.f k l [w]).bind fun bt348 => ((nat_Shift.f k l s).bind fun bt352 => ((bobbinref2_Shift.f k l s).bind fun bt356 => ((bobbinlaw2_same.f k bt341.1 bt348.1).bind fun t360 => (if t360 = true then (if bt341.2 = bt348.2 then ((bobbinlaw2_same.f k bt352.1 bt356.1).bind fun t361 => (if t361 = true then (if bt352.2 = bt356.2 then ((bobbinlaw2_awake.f k).bind fun t362 => (some t362)) else (some false)) else (some false))) else (some false)) else (some false))))))) (fun k => ?_) ?_
    · simp only [bobbinlaw2_NatLong.l0]
      rw [if_neg (by omega)]
    · refine Ev.bind e1 (Ev.bind e2 (Ev.bind f1 (Ev.bind f2 (Ev.bind (ev_same_self R.1 (by omega)) ?_))))
      simp only [if_true]
      refine Ev.bind (ev_same_self R'.1 (by omega)) ?_
      simp only [if_true]
      exact Ev.bind ev_awake (Ev.now _)
  | succ d ih =>
    intro i l hi hl hok
    have ei : wrap64 ((i : Int) + 1) = ((i + 1 : Nat) : Int) := by rw [i64_id (by omega) (by omega)]; rfl
    refine Ev.step (fun k => ?_) (ih (i + 1) (l ++ [w]) (by omega) (by simp [hl]) (Num.okW_append.2 ⟨hok, Num.okW_cons.2 ⟨hw, Num.okW_nil⟩⟩))
    simp only [bobbinlaw2_NatLong.l0]
    rw [if_pos (by omega), if_pos (by omega), ei]
theorem natLong_pure : bobbinlaw2_NatLong.Pure := by
  intro a0 a1 a2 h0 h1 h2
  have w0 : -9223372036854775808 ≤ a0 ∧ a0 ≤ 9223372036854775807 := by simpa [Lit.wf, IntKind.min, IntKind.max, IntKind.signed, IntKind.bits] using h0
  have w1 : 0 ≤ a1 ∧ a1 ≤ 4294967295 := by simpa [Lit.wf, IntKind.min, IntKind.max, IntKind.signed, IntKind.bits] using h1
  have w2 : -9223372036854775808 ≤ a2 ∧ a2 ≤ 9223372036854775807 := by simpa [Lit.wf, IntKind.min, IntKind.max, IntKind.signed, IntKind.bits] using h2
  have big : Ev (fun k => bobbinlaw2_NatLong.j0 k a0 a1 a2 true) true := by
    refine Ev.step (f := fun k => (bobbinlaw2_awake.f k).bind fun t => some t) (fun k => ?_) (Ev.bind ev_awake (Ev.now _))
    simp only [bobbinlaw2_NatLong.j0, if_true]
  have key : Ev (fun k => bobbinlaw2_NatLong.f k a0 a1 a2) true := by
    unfold bobbinlaw2_NatLong.f
    by_cases c0 : a0 < 0
    · simp only [if_pos c0]
      exact big
    · simp only [if_neg c0]
      by_cases c1 : a0 > 2100
      · simp only [decide_eq_true c1]
        exact big
      · simp only [decide_eq_false c1]
        refine Ev.step (fun k => ?_) (long_l0 a0 a1 a2 (by omega) ⟨by omega, by omega⟩ (by omega) a0.toNat 0 [] (by omega) rfl Num.okW_nil)
        simp only [bobbinlaw2_NatLong.j0, Bool.false_eq_true, if_false]
        rfl
  obtain ⟨K, h⟩ := key
  exact ⟨K, h K (Nat.le_refl _)⟩

end Go.Proofs.YtkihjfpfocnneaaDoor.Pure

/- NatShifts: the law's function answers true, whatever it is handed: the hand walk, and the two texts that answer alike. -/
namespace Go.Proofs.YtkihjfpfocnneaaDoor.Pure
open Go.RowKit Go.Proofs.YtkihjfpfocnneaaDoor.PNat Go.Proofs.YtkihjfpfocnneaaDoorW.PrintWords Go.Proofs.YtkihjfpfocnneaaDoorW.PrintLast Go.Proofs.YtkihjfpfocnneaaDoorW.PrintMore
theorem lent_f (l : List Int) (h : l.length ≤ 1000) : bobbinlaw2_lent.f l = some l := by
  unfold bobbinlaw2_lent.f
  rw [if_pos (by simp; omega), Option.bind_some, if_pos (by simp; omega), Option.bind_some, if_pos (by omega), if_pos (by rw [List.length_append, List.nil_append]; omega), Int.toNat_natCast, List.nil_append, List.take_left]
theorem okW_wf {l : List Int} (h : ∀ x ∈ l, (Lit.int .u32 x).wf = true) : Num.okW l := by
  intro x hx
  have w1 : 0 ≤ x ∧ x ≤ 4294967295 := by simpa [Lit.wf, IntKind.min, IntKind.max, IntKind.signed, IntKind.bits] using h x hx
  omega
theorem natShifts_walk (a0 : Option Addr) (len0 cap0 : Nat) (z0 : List Int) (a1 : Int) (w : World) (w0 : (a0 = none ∧ len0 = 0 ∧ cap0 = 0 ∧ z0 = []) ∨ ∃ x, a0 = some x ∧ len0 ≤ cap0 ∧ cap0 ≤ maxLen ∧ z0.length = cap0 ∧ (∀ i, i < z0.length → w.cell? (x.add i) = some (.int .u32 (z0.getD i 0))) ∧ ∀ n ∈ z0, (Lit.int .u32 n).wf = true) (y0 : len0 * 4 ≤ 140737488351232) (w1 : (Lit.int .i64 a1).wf = true) :
    Calls Tryd.prog 5 #[.slice a0 len0 cap0, .int .i64 a1] w fun e w' => e = .returned (.bool true) ∧ Below w.heap.size w w' := by
  obtain ⟨l0, rfl, hr0, hm0, hw0, hc0⟩ := ReadsInt.ofRowC w0
  have hok := okW_wf hw0
  have w2 : -9223372036854775808 ≤ a1 ∧ a1 ≤ 9223372036854775807 := by simpa [Lit.wf, IntKind.min, IntKind.max, IntKind.signed, IntKind.bits] using w1
  obtain ⟨K0, ha⟩ := ev_awake
  by_cases hlen : l0.length ≤ 130
  · obtain ⟨R, hR, ⟨K1, e1⟩, ⟨K2, e2⟩⟩ := shift_rel l0 hok (by omega) a1 w2.1
    obtain ⟨K3, e3⟩ := ev_same_self R.1 (by omega)
    obtain ⟨K4, e4⟩ := ev_same_self l0 (by omega)
    exact hand_natShifts (K0 + K1 + K2 + K3 + K4) a0 cap0 l0 a1 R.1 R.1 R.2 w (Kd.C_of_reads (d := (0 : Int)) (h1 := fun _ => rfl) hr0) hc0 hlen (lent_f l0 (by omega)) (e1 _ (by omega)) (e2 _ (by omega)) (e3 _ (by omega)) (e4 _ (by omega)) (ha _ (by omega))
  · exact hand_natShifts_long K0 a0 cap0 l0 a1 w (by omega) (ha K0 (Nat.le_refl _))
end Go.Proofs.YtkihjfpfocnneaaDoor.Pure

/- NatProducts: the law's function answers true, whatever it is handed: the hand walk, and the two texts that answer alike. -/
namespace Go.Proofs.YtkihjfpfocnneaaDoor.Pure
open Go.RowKit Go.Proofs.YtkihjfpfocnneaaDoor.PNat Go.Proofs.YtkihjfpfocnneaaDoorW.PrintWords Go.Proofs.YtkihjfpfocnneaaDoorW.PrintLast Go.Proofs.YtkihjfpfocnneaaDoorW.PrintMore
theorem natProducts_walk (a0 : Option Addr) (len0 cap0 : Nat) (z0 : List Int) (a1 : Option Addr) (len1 cap1 : Nat) (z1 : List Int) (w : World) (w0 : (a0 = none ∧ len0 = 0 ∧ cap0 = 0 ∧ z0 = []) ∨ ∃ x, a0 = some x ∧ len0 ≤ cap0 ∧ cap0 ≤ maxLen ∧ z0.length = cap0 ∧ (∀ i, i < z0.length → w.cell? (x.add i) = some (.int .u32 (z0.getD i 0))) ∧ ∀ n ∈ z0, (Lit.int .u32 n).wf = true) (y0 : len0 * 4 ≤ 140737488351232) (w1 : (a1 = none ∧ len1 = 0 ∧ cap1 = 0 ∧ z1 = []) ∨ ∃ x, a1 = some x ∧ len1 ≤ cap1 ∧ cap1 ≤ maxLen ∧ z1.length = cap1 ∧ (∀ i, i < z1.length → w.cell? (x.add i) = some (.int .u32 (z1.getD i 0))) ∧ ∀ n ∈ z1, (Lit.int .u32 n).wf = true) (y1 : len1 * 4 ≤ 140737488351232) :
    Calls Tryd.prog 4 #[.slice a0 len0 cap0, .slice a1 len1 cap1] w fun e w' => e = .returned (.bool true) ∧ Below w.heap.size w w' := by
  obtain ⟨l0, rfl, hr0, hm0, hw0, hc0⟩ := ReadsInt.ofRowC w0
  obtain ⟨l1, rfl, hr1, hm1, hw1, hc1⟩ := ReadsInt.ofRowC w1
  obtain ⟨K0, ha⟩ := ev_awake
  have key : ∃ K, K0 ≤ K ∧ (l0.length ≤ 130 → l1.length ≤ 130 → ∃ (t242 : List Int) (t245 : Int), nat_Mul.f K l0 l1 = some (t242, t245) ∧ bobbinref2_Mul.f K l0 l1 = some (t242, t245) ∧ bobbinlaw2_same.f K t242 t242 = some true ∧ bobbinlaw2_same.f K l0 l0 = some true ∧ bobbinlaw2_same.f K l1 l1 = some true ∧ bobbinlaw2_lent.f l0 = some l0 ∧ bobbinlaw2_lent.f l1 = some l1) := by
    by_cases hb : l0.length ≤ 130 ∧ l1.length ≤ 130
    · obtain ⟨R, hR, ⟨K1, e1⟩, ⟨K2, e2⟩⟩ := mul_rel l0 l1 (by omega) (by omega)
      obtain ⟨K3, e3⟩ := ev_same_self R.1 (by omega)
      obtain ⟨K4, e4⟩ := ev_same_self l0 (by omega)
      obtain ⟨K5, e5⟩ := ev_same_self l1 (by omega)
      exact ⟨K0 + K1 + K2 + K3 + K4 + K5, by omega, fun _ _ => ⟨R.1, R.2, e1 _ (by omega), e2 _ (by omega), e3 _ (by omega), e4 _ (by omega), e5 _ (by omega), lent_f l0 (by omega), lent_f l1 (by omega)⟩⟩
    · exact ⟨K0, Nat.le_refl _, fun h0 h1 => absurd ⟨h0, h1⟩ hb⟩
  obtain ⟨K, hK, hin⟩ := key
  exact hand_natProducts K a0 cap0 l0 a1 cap1 l1 w (Kd.C_of_reads (d := (0 : Int)) (h1 := fun _ => rfl) hr0) hc0 (Kd.C_of_reads (d := (0 : Int)) (h1 := fun _ => rfl) hr1) hc1 (ha K hK) hin
end Go.Proofs.YtkihjfpfocnneaaDoor.Pure

/- The law NatProducts answers true at every input its row admits: the row, and its tied card. -/
namespace Go.Proofs.YtkihjfpfocnneaaDoor.natProducts
open Go.ChangeShapes Go.WideShapes Go.ChangeAt Go.RowKit
open Go.ChangeMaps (open_string shut_string)
set_option linter.unusedVariables false
theorem own : ownKnob Tryd.prog.godebug = none := by kernel_rfl
theorem laidOut : laidOutB Tryd.prog = true := by kernel_rfl
def IsRow (k : IntKind) (w : World) (a : Option Addr) (len cap : Nat) (zs : List Int) : Prop :=
  (a = none ∧ len = 0 ∧ cap = 0 ∧ zs = []) ∨
  ∃ x, a = some x ∧ len ≤ cap ∧ cap ≤ maxLen ∧ zs.length = cap ∧ (∀ i, i < zs.length → w.cell? (x.add i) = some (.int k (zs.getD i 0))) ∧ ∀ n ∈ zs, (Lit.int k n).wf = true
set_option maxRecDepth 100000 in
theorem lifted (os : Os) (started : os.Started) (H : Type) (enc : TypeId × Value → H) :
    ReturnsInHanded {} Tryd.checked os 4 .any (fun w args => (Rows.natProductsSpec.pre enc Tryd.prog Tryd.f4 Rows.natProductsRow.domain false w args ∧ laidMetH Tryd.prog Rows.natProductsRow.laid w) ∧ sizedMet enc Tryd.prog Tryd.f4 (OpenSpec.ofChange Rows.natProductsSpec) false w args) (Rows.natProductsSpec.post enc Tryd.prog Tryd.f4 false true false false) := by
  refine returnsInHanded_of_change_and (C := Tryd.checked) (X := fun w _ => laidMetH Tryd.prog Rows.natProductsRow.laid w) (fun _ _ _ hh h => h.of_heap hh) own started (by kernel_rfl) Tryd.func4
    (ChangeSpec.witness_shaped (enc := enc) (C := Tryd.checked) (os := os) (X := fun w _ => laidMetH Tryd.prog Rows.natProductsRow.laid w) false (World.laidAll Tryd.prog os Rows.natProductsRow.laid) #[.slice none 0 0, .slice none 0 0] 8 (World.laidAll_os _ _ _)
      (World.shaped_of_ZipB (by kernel_rfl) (by kernel_rfl)) (by kernel_rfl) (by kernel_rfl) (by kernel_rfl)
      (by rw [MakeChecks.laidMetH_plain _ _ _ (by kernel_rfl)]; exact laidMet_laidAll _ (by kernel_rfl) (by kernel_rfl))) ?_
  intro W base args ds gs before hval0 hW hcnd hsz0 _ _
  have hsz : (DataW.weightsEach Tryd.prog (Tryd.f4.params.toList ++ Rows.natProductsSpec.plain.varTypes Tryd.prog) (ds ++ gs)).all (· ≤ reachBytes) = true := hsz0
  have hval : ∀ (j : Nat) t v, Tryd.f4.params[j]? = some t → args[j]? = some v → Value.okWide Tryd.prog W .any base t v := hval0
  have hW' := hW
  obtain ⟨p, q, hA0, hV, rfl, hfz, hnd⟩ := hW
  have hA : DataW.TrodAll enc Tryd.prog W 0 (fun _ => true) true Tryd.f4.params.toList args.toList ds p := hA0
  rw [Tryd.params4] at hA hval hsz
  obtain ⟨v0, vs0, d0, ds0, p0, q0, hargs, rfl, rfl, h0, r0⟩ := trodAll_cons hA
  obtain ⟨v1, vs1, d1, ds1, p1, q1, rfl, rfl, rfl, h1, r1⟩ := trodAll_cons r0
  obtain ⟨rfl, rfl, rfl⟩ := trodAll_nil r1
  obtain rfl : args = #[v0, v1] := by cases args; simp_all
  obtain ⟨rfl, rfl⟩ := trodVars_none hV
  obtain ⟨a0, len0, cap0, rfl⟩ := okWide_slice Tryd.underlying23 (hval 0 23 v0 rfl rfl)
  have k0 := h0
  have lt0 : ∀ x ∈ p0, x.block < W.heap.size := by obtain ⟨m, hm⟩ := k0; exact DataW.trod_lt m _ _ _ hm
  obtain ⟨z0, w0⟩ : ∃ zs, IsRow .u32 W a0 len0 cap0 zs := by
    obtain ⟨fuel, hf⟩ := h0
    rcases open_ints Tryd.underlying23 Tryd.underlying38 (by kernel_rfl) hf with ⟨hcs, _⟩ | ⟨x, l, c, zs, hcs, _, hl, hm, hz, _, hcell, hwz⟩
    · simp [Value.cells] at hcs
      obtain ⟨rfl, rfl, rfl⟩ := hcs
      exact ⟨[], .inl ⟨rfl, rfl, rfl, rfl⟩⟩
    · simp [Value.cells] at hcs
      obtain ⟨rfl, rfl, rfl⟩ := hcs
      exact ⟨zs, .inr ⟨_, rfl, hl, hm, by simpa using hz, hcell, hwz⟩⟩
  have y0 : len0 * 4 ≤ 140737488351232 := Go.Proofs.YtkihjfpfocnneaaDoorW.PrintWords.sized_ints hsz (j := 0) (t := 23) rfl rfl Tryd.underlying23 Tryd.underlying38 (by kernel_rfl) (by kernel_rfl) h0
  obtain ⟨a1, len1, cap1, rfl⟩ := okWide_slice Tryd.underlying23 (hval 1 23 v1 rfl rfl)
  have k1 := h1
  have lt1 : ∀ x ∈ p1, x.block < W.heap.size := by obtain ⟨m, hm⟩ := k1; exact DataW.trod_lt m _ _ _ hm
  obtain ⟨z1, w1⟩ : ∃ zs, IsRow .u32 W a1 len1 cap1 zs := by
    obtain ⟨fuel, hf⟩ := h1
    rcases open_ints Tryd.underlying23 Tryd.underlying38 (by kernel_rfl) hf with ⟨hcs, _⟩ | ⟨x, l, c, zs, hcs, _, hl, hm, hz, _, hcell, hwz⟩
    · simp [Value.cells] at hcs
      obtain ⟨rfl, rfl, rfl⟩ := hcs
      exact ⟨[], .inl ⟨rfl, rfl, rfl, rfl⟩⟩
    · simp [Value.cells] at hcs
      obtain ⟨rfl, rfl, rfl⟩ := hcs
      exact ⟨zs, .inr ⟨_, rfl, hl, hm, by simpa using hz, hcell, hwz⟩⟩
  have y1 : len1 * 4 ≤ 140737488351232 := Go.Proofs.YtkihjfpfocnneaaDoorW.PrintWords.sized_ints hsz (j := 1) (t := 23) rfl rfl Tryd.underlying23 Tryd.underlying38 (by kernel_rfl) (by kernel_rfl) h1
  clear hA0 hval0 hsz0 hsz
  refine (Pure.natProducts_walk a0 len0 cap0 z0 a1 len1 cap1 z1 W w0 y0 w1 y1).mono fun e W' ⟨he, bel⟩ => ?_
  subst he
  exact ⟨_, rfl, _, _, _, [], _, [], hW', trodAll_mk1 (shut_bool Tryd.underlying4 _), (trodAll_cons_mk (Below.trod laidOut (by kernel_rfl) (of_decide_eq_true (by kernel_rfl)) k0 bel lt0) (trodAll_cons_mk (Below.trod laidOut (by kernel_rfl) (of_decide_eq_true (by kernel_rfl)) k1 bel lt1) trodAll_mk0)), rfl, bel.frame _, fun h => by cases h⟩
theorem over : Rows.natProductsRow.holds Tryd.pinned (OpenSpec.ofChange Rows.natProductsSpec) :=
  OpenClaim.holds_of_wide 4 Tryd.f4 rfl rfl rfl rfl rfl rfl rfl ⟨rfl, rfl, rfl, rfl, rfl⟩ rfl rfl rfl rfl rfl (by kernel_rfl) Tryd.func4 (by kernel_rfl)
    (of_decide_eq_true (by kernel_rfl)) (by unfold Func.isWrapper; first | (rw [if_pos (by decide +kernel)]; kernel_rfl) | (rw [if_neg (by decide +kernel)]; exact ⟨rfl, rfl⟩))
    (fun os started H enc _ => lifted os started H enc)
theorem proved : Rows.NatProductsSaid := over
#print axioms proved
end Go.Proofs.YtkihjfpfocnneaaDoor.natProducts
namespace Go.Proofs.YtkihjfpfocnneaaDoor
/-- The tied card of the row. -/
theorem natProducts_card : Rows.NatProductsCardSaid :=
  Claim7.holds_tied_plain_at .later [] [.data, .pinned] true (true, "005fd3a0aea88288d9db4e560ed0fc24a76800b7dd77e6b7e28f807f693223d3") false natProducts.proved (fun _ h => by cases h) (by kernel_rfl) (fun _ h => by cases h) natProducts_row_tie rfl ⟨rfl, rfl⟩ (by kernel_rfl) rfl
    (fun f fn hf hfn => by
      obtain rfl : f = 4 := Option.some.inj ((show Tryd.prog.funcNamed "bobbin/bobbinlaw2.NatProducts" = some 4 by kernel_rfl).symm.trans hf) |>.symm
      obtain rfl : fn = Tryd.f4 := (Option.some.inj (Tryd.func4.symm.trans hfn)).symm
      exact ⟨by kernel_rfl, fun j t ht => by
        rw [Tryd.params4] at ht
        have hm : t ∈ [23, 23] := by simpa using Array.mem_of_getElem? ht
        have hall : ([23, 23].all fun u => !Tryd.prog.wantsStandIn u) = true := by kernel_rfl
        exact (show Tryd.prog.wantsStandIn t = false by simpa using List.all_eq_true.1 hall t hm)⟩)
    (by kernel_rfl)
#print axioms natProducts_card
end Go.Proofs.YtkihjfpfocnneaaDoor
