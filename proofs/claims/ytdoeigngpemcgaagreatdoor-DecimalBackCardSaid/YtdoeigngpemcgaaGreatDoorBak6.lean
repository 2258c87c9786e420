/- DecimalBack answers true at every input that its row admits. This is part 6 of 7: what the session's printing program wrote for the functions reached, and the session's own lemmas. -/
import Derived.Laws.CopyOwn
import Derived.Laws.RangeAny
import Derived.Laws.ResultCell
import Derived.Lib.AppendIntMem
import Derived.Lib.ItoaNum
import Derived.Lib.OthersKept
import Derived.Test.YtdoeigngpemcgaaGreatDoorBak2
import Derived.Test.YtdoeigngpemcgaaGreatDoorBak5
namespace Go.Proofs.YtdoeigngpemcgaaGreatDoor.Dec
open Go.RowKit Go.Proofs.YtdoeigngpemcgaaGreatDoor.PNat Go.Proofs.YtdoeigngpemcgaaGreatDoor.Pure Go.Proofs.YtdoeigngpemcgaaGreatDoorW.PrintWords Go.Proofs.YtdoeigngpemcgaaGreatDoorW.PrintLast Go.Proofs.YtdoeigngpemcgaaGreatDoorW.PrintMore
theorem wordsN_len {v n : Nat} (h : v < 4294967296 ^ n) : (Num.wordsN v).length ≤ n := by
 rcases Nat.lt_or_ge n (Num.wordsN v).length with c | c
 ·obtain ⟨m, hm⟩ : ∃ m, (Num.wordsN v).length = m + 1 := ⟨(Num.wordsN v).length - 1, by omega⟩
  have h1 := Num.val_ge (Num.wordsN_ok v) (Num.wordsN_normed v) m hm
  rw [Num.wordsN_val] at h1
  have h2 : 4294967296 ^ n ≤ 4294967296 ^ m := Nat.pow_le_pow_right (by decide) (by omega)
  omega
 ·exact c
theorem wordsN_len_ge {v n : Nat} (h : 4294967296 ^ n ≤ v) : n < (Num.wordsN v).length := by
 rcases Nat.lt_or_ge n (Num.wordsN v).length with c | c
 ·exact c
 ·have h1 := Num.valN_lt (Num.wordsN_ok v)
  rw [Num.wordsN_val] at h1
  have h2 : 4294967296 ^ (Num.wordsN v).length ≤ 4294967296 ^ n := Nat.pow_le_pow_right (by decide) c
  omega
/-- A row that reads a number's words, normed. -/
def Nm (w : World) (v : Value) (n : Nat) : Prop := Kd.V (Kd.int .u32) 35 w 0 (fun _ => True) v (Num.wordsN n)
/-- A number of at most 2000 words. -/
def Fit (n : Nat) : Prop := (Num.wordsN n).length ≤ 2000
theorem fit_iff {n k : Nat} : (Num.wordsN n).length ≤ k ↔ n < 4294967296 ^ k := by
 constructor
 ·intro h
  rcases Nat.lt_or_ge n (4294967296 ^ k) with d | d
  ·exact d
  ·have := wordsN_len_ge d
   omega
 ·exact wordsN_len
theorem len_lt {n b k : Nat} (h : n < 2 ^ b) (hb : b ≤ 32 * k) : (Num.wordsN n).length ≤ k := by
 refine wordsN_len (Nat.lt_of_lt_of_le h ?_)
 rw [show (4294967296 : Nat) = 2 ^ 32 from rfl, ← Nat.pow_mul]
 exact Nat.pow_le_pow_right (by omega) hb
theorem len_le {m n k : Nat} (h : (Num.wordsN n).length ≤ k) (hm : m ≤ n) : (Num.wordsN m).length ≤ k := fit_iff.2 (Nat.lt_of_le_of_lt hm (fit_iff.1 h))
theorem fit_lt {n b : Nat} (h : n < 2 ^ b) (hb : b ≤ 64000) : Fit n := len_lt h (by omega)
theorem fit_le {m n : Nat} (h : Fit n) (hm : m ≤ n) : Fit m := len_le h hm
theorem Nm.open {w : World} {v : Value} {n : Nat} (h : Nm w v n) : ∃ A c, v = .slice A (Num.wordsN n).length c ∧ (Num.wordsN n).length ≤ c ∧ Kd.C (Kd.int .u32) w A (Num.wordsN n).length (Num.wordsN n) ∧ Kd.V (Kd.int .u32) 35 w w.heap.size (fun _ => True) (.slice A (Num.wordsN n).length c) (Num.wordsN n) := by
 obtain ⟨A, c, rfl⟩ := Kd.V_slice h
 obtain ⟨_, h2, h3⟩ := Kd.V_reads' h
 exact ⟨A, c, rfl, h2, h3, Kd.V_map h (fun _ hf => hf)⟩
theorem Nm.below {w w1 : World} {v : Value} {n : Nat} (h : Nm w v n) (hb : Below w.heap.size w w1) : Nm w1 v n := Kd.V_below h hb
theorem Nm.of_V {w : World} {b : Nat} {ok : Nat → Prop} {v : Value} {n : Nat} (h : Kd.V (Kd.int .u32) 35 w b ok v (Num.wordsN n)) : Nm w v n := Kd.V_mono (Kd.V_map h (fun _ hf => hf)) (fun _ _ => trivial)
theorem Nm.of_R {w : World} {b : Nat} {ok : Nat → Prop} {v : Value} {n : Nat} (h : Kd.R (Kd.int .u32) 35 w b ok v (Num.wordsN n)) : Nm w v n := Nm.of_V (Kd.R_V (base' := 0) h)
theorem Nm.nil (w : World) : Nm w (.slice none 0 0) 0 := by
 unfold Nm
 rw [Num.wordsN_zero]
 exact Kd.V_nil _ _ _ _ _
theorem Ev.at {α : Type} {f : Nat → Option α} {v : α} (h : Ev f v) : ∃ k, f k = some v := by
 obtain ⟨K, hK⟩ := h
 exact ⟨K, hK K (Nat.le_refl _)⟩
theorem fitV_of {n : Nat} (h : Fit n) : fitV n = (Num.wordsN n, 0) := by
 unfold fitV
 rw [if_neg (by unfold Fit at h; omega)]
theorem fitsW_of {n : Nat} (h : Fit n) : fitsW (Num.wordsN n) = (Num.wordsN n, 0) := by
 unfold fitsW
 rw [Num.wordsN_normed, if_neg (by unfold Fit at h; omega)]
section
variable {w : World} {v u : Value} {a b : Nat}
theorem n_Parse (s : ByteArray) (hd : Num.digs s.data.toList = true) (h0 : s.data.toList ≠ []) (hs : s.data.toList.length ≤ 5000) (hf : Fit (Num.decL 0 s.data.toList)) :
  Calls Tryz.prog 72 #[.string s] w fun e w' => ∃ v, e = .returned (.tuple #[v, .int .i64 0]) ∧ Nm w' v (Num.decL 0 s.data.toList) ∧ Below w.heap.size w w' := by
 have hp : parseW s.data.toList = (Num.wordsN (Num.decL 0 s.data.toList), 0) := by
  unfold parseW
  rw [hd, if_neg (by simp), if_neg h0, if_neg (by omega), fitsW_of hf]
 have he := ev_parse s (by show s.data.size ≤ _; rw [← Array.length_toList]; omega)
 rw [hp] at he
 obtain ⟨k, hk⟩ := Ev.at he
 refine (nat_Parse.calls k s _ _ w hk).mono ?_
 rintro e w' ⟨v, rfl, h1, h2⟩
 exact ⟨v, rfl, Nm.of_V h1, h2⟩
theorem n_Mul (h0 : Nm w v a) (h1 : Nm w u b) (fa : Fit a) (fb : Fit b) (hf : Fit (a * b)) :
  Calls Tryz.prog 121 #[v, u] w fun e w' => ∃ r, e = .returned (.tuple #[r, .int .i64 0]) ∧ Nm w' r (a * b) ∧ Below w.heap.size w w' := by
 obtain ⟨A, c, rfl, _, _, g0⟩ := h0.open
 obtain ⟨A1, c1, rfl, _, _, g1⟩ := h1.open
 have he := ev_mul (Num.wordsN a) (Num.wordsN b) (Num.wordsN_ok a) (Num.wordsN_ok b) (by unfold Fit at fa; omega) (by unfold Fit at fb; omega)
 unfold mulW at he
 rw [Num.wordsN_val, Num.wordsN_val, if_neg (by unfold Fit at fa fb; omega), fitV_of hf] at he
 obtain ⟨k, hk⟩ := Ev.at he
 refine (nat_Mul.calls k _ _ _ _ _ _ _ _ _ _ w g0 g1 hk).mono ?_
 rintro e w' ⟨v, rfl, h1, h2⟩
 exact ⟨v, rfl, Nm.of_V h1, h2⟩
theorem n_Shl (h0 : Nm w v a) (fa : Fit a) (m : Nat) (hm : m ≤ 64000) (hf : Fit (a * 2 ^ m)) :
  Calls Tryz.prog 117 #[v, .int .i64 (m : Int)] w fun e w' => ∃ r, e = .returned (.tuple #[r, .int .i64 0]) ∧ Nm w' r (a * 2 ^ m) ∧ Below w.heap.size w w' := by
 obtain ⟨A, c, rfl, _, _, g0⟩ := h0.open
 have he := shift_left (Num.wordsN a) (Num.wordsN_ok a) (by rw [Num.wordsN_normed]; exact fa) (by unfold Fit at fa; omega) m hm
 rw [Num.wordsN_val, fitV_of hf] at he
 obtain ⟨k, hk⟩ := Ev.at he
 refine (nat_Shift.calls k _ _ _ _ _ _ _ w g0 hk).mono ?_
 rintro e w' ⟨v, rfl, h1, h2⟩
 exact ⟨v, rfl, Nm.of_V h1, h2⟩
theorem n_Shr (h0 : Nm w v a) (fa : Fit a) (m : Nat) (hm : 0 < m) (hm2 : m ≤ 64000) :
  Calls Tryz.prog 117 #[v, .int .i64 (-(m : Int))] w fun e w' => ∃ r, e = .returned (.tuple #[r, .int .i64 0]) ∧ Nm w' r (a / 2 ^ m) ∧ Below w.heap.size w w' := by
 obtain ⟨A, c, rfl, _, _, g0⟩ := h0.open
 have he := shift_right (Num.wordsN a) (Num.wordsN_ok a) (by rw [Num.wordsN_normed]; exact fa) (by unfold Fit at fa; omega) m hm (by omega)
 rw [Num.wordsN_val] at he
 obtain ⟨k, hk⟩ := Ev.at he
 refine (nat_Shift.calls k _ _ _ _ _ _ _ w g0 hk).mono ?_
 rintro e w' ⟨v, rfl, h1, h2⟩
 exact ⟨v, rfl, Nm.of_V h1, h2⟩
theorem n_Add (h0 : Nm w v a) (h1 : Nm w u b) (fa : Fit a) (fb : Fit b) :
  Calls Tryz.prog 77 #[v, u] w fun e w' => ∃ r, e = .returned r ∧ Nm w' r (a + b) ∧ Below w.heap.size w w' := by
 obtain ⟨A, c, rfl, l0, g0, _⟩ := h0.open
 obtain ⟨A1, c1, rfl, l1, g1, _⟩ := h1.open
 have he := ev_add (Num.wordsN a) (Num.wordsN b) (Num.wordsN_ok a) (Num.wordsN_ok b) (by unfold Fit at fa; omega) (by unfold Fit at fb; omega)
 rw [Num.wordsN_val, Num.wordsN_val] at he
 obtain ⟨k, hk⟩ := Ev.at he
 refine (nat_Add.calls k _ _ _ _ _ _ _ w g0 l0 g1 l1 hk).mono ?_
 rintro e w' ⟨v, rfl, h1, h2⟩
 exact ⟨v, rfl, Nm.of_R h1, h2⟩
theorem n_Norm {A : Option Addr} {c : Nat} {l : List Int} (hr : Kd.C (Kd.int .u32) w A l.length l) (hc : l.length ≤ c) (ok : Num.okW l) (hl : l.length ≤ 100000) :
  Calls Tryz.prog 85 #[.slice A l.length c] w fun e w' => ∃ r, e = .returned r ∧ Nm w' r (Num.valN l) ∧ Below w.heap.size w w' := by
 have he := ev_norm l (by omega)
 rw [Num.trim_words ok] at he
 obtain ⟨k, hk⟩ := Ev.at he
 refine (nat_Norm.calls k _ _ _ _ w hr hc hk).mono ?_
 rintro e w' ⟨v, rfl, h1, h2⟩
 exact ⟨v, rfl, Nm.of_R h1, h2⟩
theorem n_NormN (h0 : Nm w v a) (fa : Fit a) :
  Calls Tryz.prog 85 #[v] w fun e w' => ∃ r, e = .returned r ∧ Nm w' r a ∧ Below w.heap.size w w' := by
 obtain ⟨A, c, rfl, l0, g0, _⟩ := h0.open
 refine (n_Norm g0 l0 (Num.wordsN_ok a) (by unfold Fit at fa; omega)).mono ?_
 rintro e w' ⟨r, rfl, h1, h2⟩
 rw [Num.wordsN_val] at h1
 exact ⟨r, rfl, h1, h2⟩
theorem n_Compare (h0 : Nm w v a) (h1 : Nm w u b) (fa : Fit a) (fb : Fit b) :
  Calls Tryz.prog 94 #[v, u] w fun e w' => e = .returned (.int .i64 (Num.cmpN a b)) ∧ Below w.heap.size w w' := by
 obtain ⟨A, c, rfl, l0, g0, _⟩ := h0.open
 obtain ⟨A1, c1, rfl, l1, g1, _⟩ := h1.open
 have he := ev_cmp (Num.wordsN a) (Num.wordsN b) (Num.wordsN_ok a) (Num.wordsN_ok b) (by unfold Fit at fa; omega) (by unfold Fit at fb; omega)
 rw [Num.wordsN_val, Num.wordsN_val] at he
 obtain ⟨k, hk⟩ := Ev.at he
 exact nat_Compare.calls k _ _ _ _ _ _ _ w g0 l0 g1 l1 hk
theorem n_Bits (h0 : Nm w v a) (fa : Fit a) :
  Calls Tryz.prog 38 #[v] w fun e w' => e = .returned (.int .i64 (Num.bitsN a : Nat)) ∧ Below w.heap.size w w' := by
 obtain ⟨A, c, rfl, l0, g0, _⟩ := h0.open
 have he := ev_bits (Num.wordsN a) (Num.wordsN_ok a) (by unfold Fit at fa; omega)
 rw [Num.wordsN_val] at he
 obtain ⟨k, hk⟩ := Ev.at he
 exact nat_Bits.calls k _ _ _ _ w g0 l0 hk
theorem n_Divide (h0 : Nm w v a) (h1 : Nm w u b) (fa : Fit a) (fb : Fit b) (hb : b ≠ 0) :
  Calls Tryz.prog 75 #[v, u] w fun e w' => ∃ q r, e = .returned (.tuple #[q, r, .int .i64 0]) ∧ Nm w' q (a / b) ∧ Nm w' r (a % b) ∧ Below w.heap.size w w' := by
 obtain ⟨A, c, rfl, _, _, g0⟩ := h0.open
 obtain ⟨A1, c1, rfl, _, _, g1⟩ := h1.open
 have he := ev_div (Num.wordsN a) (Num.wordsN b) (Num.wordsN_ok a) (Num.wordsN_ok b) (by unfold Fit at fa; omega) (by unfold Fit at fb; omega)
 unfold divW at he
 rw [Num.wordsN_val, Num.wordsN_val, if_neg (by unfold Fit at fa fb; omega), if_neg hb] at he
 obtain ⟨k, hk⟩ := Ev.at he
 refine (nat_Divide.calls k _ _ _ _ _ _ _ _ _ _ _ w g0 g1 hk).mono ?_
 rintro e w' ⟨q, r, rfl, h1, h2, h3⟩
 exact ⟨q, r, rfl, Nm.of_V h1, Nm.of_V h2, h3⟩
theorem n_Text (h0 : Nm w v a) (fa : Fit a) :
  Calls Tryz.prog 95 #[v] w fun e w' => e = .returned (.string ⟨(Num.textN a).toArray⟩) ∧ Below w.heap.size w w' := by
 obtain ⟨A, c, rfl, l0, g0, _⟩ := h0.open
 have he := text_f (Num.wordsN_ok a) (by unfold Fit at fa; omega)
 rw [Num.wordsN_val] at he
 exact nat_Text.calls _ _ _ _ w g0 l0 he
end
end Go.Proofs.YtdoeigngpemcgaaGreatDoor.Dec
namespace Go.Proofs.YtdoeigngpemcgaaGreatDoor.Dec
open Go.RowKit Go.Proofs.YtdoeigngpemcgaaGreatDoor.Pure Go.Proofs.YtdoeigngpemcgaaGreatDoorW.PrintWords Go.Proofs.YtdoeigngpemcgaaGreatDoorW.PrintLast Go.Proofs.YtdoeigngpemcgaaGreatDoorW.PrintMore
/-- some word of the first k is not 0 -/
def anyW (l : List Int) (k : Nat) : Bool := (l.take k).any (fun x => x != 0)
theorem anyW_succ (l : List Int) (k : Nat) (h : k < l.length) : anyW l (k + 1) = (anyW l k || (rd l (k : Int) != 0)) := by
 unfold anyW
 rw [List.take_succ_eq_append_getElem h, List.any_append, List.any_cons, List.any_nil, Bool.or_false]
 congr 1
 unfold rd
 rw [Int.toNat_natCast]
 simp [List.getD, h]
theorem any_val {l : List Int} (ok : Num.okW l) : (l.any (fun x => x != 0)) = decide (Num.valN l ≠ 0) := by
 induction l with
 | nil => rfl
 | cons a t ih =>
  have h := Num.okW_cons.1 ok
  rw [List.any_cons, ih h.2, Bool.eq_iff_iff, Bool.or_eq_true, bne_iff_ne, decide_eq_true_iff, decide_eq_true_iff]
  show _ ↔ a.toNat + 4294967296 * Num.valN t ≠ 0
  omega
theorem lost_eq {l : List Int} (ok : Num.okW l) {n k r : Nat} (hk : n / 32 = k) (hr : n % 32 = r) (h : k < l.length) :
  decide (Num.valN l % 2 ^ n ≠ 0) = (anyW l k || decide ((rd l (k : Int)).toNat % 2 ^ r ≠ 0)) := by
 have e1 : rd l (k : Int) = l[k] := by
  unfold rd
  rw [Int.toNat_natCast]
  simp [List.getD, h]
 have ht : Num.okW (l.take k) := fun x hx => ok x (List.mem_of_mem_take hx)
 have hlt := Num.valN_lt ht
 rw [List.length_take, Nat.min_eq_left (by omega)] at hlt
 have hsplit : Num.valN l = Num.valN (l.take k) + 4294967296 ^ k * (l[k].toNat + 4294967296 * Num.valN (l.drop (k + 1))) := by
  have e := Num.valN_append (l.take k) (l.drop k)
  rw [List.take_append_drop, List.length_take, Nat.min_eq_left (by omega), List.drop_eq_getElem_cons h] at e
  exact e
 have hp : (2 : Nat) ^ n = 4294967296 ^ k * 2 ^ r := by
  rw [show (4294967296 : Nat) = 2 ^ 32 from rfl, ← Nat.pow_mul, ← Nat.pow_add]
  congr 1
  omega
 have hr32 : r < 32 := by omega
 have hd : (2 : Nat) ^ r ∣ 4294967296 := ⟨2 ^ (32 - r), by rw [← Nat.pow_add, show r + (32 - r) = 32 by omega]⟩
 have hz : Num.valN l % 2 ^ n = 4294967296 ^ k * (l[k].toNat % 2 ^ r) + Num.valN (l.take k) := by
  obtain ⟨q, hq⟩ := hd
  rw [hp, Nat.mod_mul, hsplit, Nat.add_mul_mod_self_left, Nat.mod_eq_of_lt hlt, Nat.add_mul_div_left _ _ (Nat.pow_pos (by decide)), Nat.div_eq_of_lt hlt, Nat.zero_add, Nat.add_comm]
  congr 2
  rw [hq, Nat.mul_assoc, Nat.add_mul_mod_self_left]
 rw [e1, hz]
 unfold anyW
 rw [any_val ht, Bool.eq_iff_iff, Bool.or_eq_true, decide_eq_true_iff, decide_eq_true_iff, decide_eq_true_iff]
 have hpos : 0 < 4294967296 ^ k := Nat.pow_pos (by decide)
 constructor
 ·intro hne
  by_cases c : Num.valN (l.take k) = 0
  ·right
   intro c2
   rw [c2, c] at hne
   exact hne (by rw [Nat.mul_zero])
  ·exact .inl c
 ·rintro (c | c)
  ·omega
  ·intro hh
   have := (Nat.add_eq_zero_iff.1 hh).1
   rcases Nat.mul_eq_zero.1 this with z | z
   ·omega
   ·exact c z
/-- the mask's answer -/
theorem mask_eq {l : List Int} (ok : Num.okW l) {k r : Nat} (h : k < l.length) (hr : r < 32) :
  (bits .and .u32 (rd l (k : Int)) ((2 ^ r - 1) % 4294967296) != 0) = decide ((rd l (k : Int)).toNat % 2 ^ r ≠ 0) := by
 have e1 : rd l (k : Int) = l[k] := by
  unfold rd
  rw [Int.toNat_natCast]
  simp [List.getD, h]
 have ho := ok (l[k]) (List.getElem_mem h)
 obtain ⟨x, hx⟩ : ∃ x : Nat, l[k] = (x : Int) := ⟨l[k].toNat, by omega⟩
 rw [e1, hx, Int.toNat_natCast]
 have hle : 2 ^ r ≤ 2 ^ 31 := Nat.pow_le_pow_right (by decide) (by omega)
 have hpos := Nat.two_pow_pos r
 have h31 : (2 : Nat) ^ 31 = 2147483648 := rfl
 have hm : ((2 : Int) ^ r - 1) % 4294967296 = ((2 ^ r - 1 : Nat) : Int) := by
  have : ((2 : Int) ^ r) = ((2 ^ r : Nat) : Int) := by rw [Int.natCast_pow]; rfl
  rw [this]
  omega
 rw [hm, u32_and_nat _ _ (by omega) (by omega), Nat.and_two_pow_sub_one_eq_mod, Bool.eq_iff_iff, bne_iff_ne, decide_eq_true_iff]
 omega
end Go.Proofs.YtdoeigngpemcgaaGreatDoor.Dec
namespace Go.Proofs.YtdoeigngpemcgaaGreatDoor.Dec
open Go.RowKit Go.Flt Go.Proofs.YtdoeigngpemcgaaGreatDoor.Pure Go.Proofs.YtdoeigngpemcgaaGreatDoorW.PrintWords Go.Proofs.YtdoeigngpemcgaaGreatDoorW.PrintLast Go.Proofs.YtdoeigngpemcgaaGreatDoorW.PrintMore
attribute [local go_sem] max2_int min2_int max_two min_two max_three min_three max_four min_four
set_option linter.unusedVariables false
set_option linter.unusedSimpArgs false
/-- four words, the missing ones 0 -/
theorem four (l : List Int) (ok : Num.okW l) (hl : l.length ≤ 4) : ∃ x0 x1 x2 x3 : Nat, x0 < 4294967296 ∧ x1 < 4294967296 ∧ x2 < 4294967296 ∧ x3 < 4294967296 ∧
  splice [Value.int .u32 0, .int .u32 0, .int .u32 0, .int .u32 0] 0 (l.map (Value.int .u32)) = [.int .u32 (x0 : Int), .int .u32 (x1 : Int), .int .u32 (x2 : Int), .int .u32 (x3 : Int)] ∧ Num.valN l = x0 + 4294967296 * (x1 + 4294967296 * (x2 + 4294967296 * x3)) := by
 have key : ∀ x : Int, x ∈ l → ((x.toNat : Nat) : Int) = x ∧ x.toNat < 4294967296 := fun x hx => by
  have := ok x hx
  omega
 match l, hl, key with
 | [], _, _ => exact ⟨0, 0, 0, 0, by decide, by decide, by decide, by decide, rfl, rfl⟩
 | [a], _, key =>
  have ka := key a (by simp)
  exact ⟨a.toNat, 0, 0, 0, ka.2, by decide, by decide, by decide, by rw [ka.1]; rfl, by simp [Num.valN]⟩
 | [a, b], _, key =>
  have ka := key a (by simp)
  have kb := key b (by simp)
  exact ⟨a.toNat, b.toNat, 0, 0, ka.2, kb.2, by decide, by decide, by rw [ka.1, kb.1]; rfl, by simp [Num.valN]⟩
 | [a, b, c], _, key =>
  have ka := key a (by simp)
  have kb := key b (by simp)
  have kc := key c (by simp)
  exact ⟨a.toNat, b.toNat, c.toNat, 0, ka.2, kb.2, kc.2, by decide, by rw [ka.1, kb.1, kc.1]; rfl, by simp [Num.valN]⟩
 | [a, b, c, d], _, key =>
  have ka := key a (by simp)
  have kb := key b (by simp)
  have kc := key c (by simp)
  have kd := key d (by simp)
  exact ⟨a.toNat, b.toNat, c.toNat, d.toNat, ka.2, kb.2, kc.2, kd.2, by rw [ka.1, kb.1, kc.1, kd.1]; rfl, by simp [Num.valN]⟩
 | _ :: _ :: _ :: _ :: _ :: _, hl, _ => exact absurd hl (by simp)
/-- the words that are handed to a copy -/
theorem copy_src {w : World} {A : Option Addr} {l : List Int} (h : Kd.C (Kd.int .u32) w A l.length l) (g : Nat) : 0 < (l.map (Value.int .u32)).length → some (⟨g, 0, none⟩ : Addr) = some ⟨g, 0, none⟩ ∧ ∃ ad, A = some ad ∧ ∀ j v, (l.map (Value.int .u32))[j]? = some v → w.cell? (ad.add j) = some v := by
 intro h0
 rw [List.length_map] at h0
 refine ⟨rfl, ?_⟩
 obtain ⟨ad, hA, _⟩ := Kd.at_int h 0 (by omega) (by omega)
 refine ⟨ad, hA, fun j v hj => ?_⟩
 rw [List.getElem?_map] at hj
 obtain ⟨x, hx, rfl⟩ := Option.map_eq_some_iff.1 hj
 obtain ⟨hlt, hxe⟩ := List.getElem?_eq_some_iff.1 hx
 subst hA
 have := Kd.foot_int h (j : Int) (by omega) (by omega)
 rw [Int.toNat_natCast] at this
 rw [this]
 simp [rd, hx, hxe]
set_option maxRecDepth 100000 in
theorem copy4 {w0 w : World} {A : Option Addr} {l : List Int} {c g : Nat} {a0 a1 a2 a3 : Value} (h : Kd.C (Kd.int .u32) w A l.length l) (hl : l.length ≤ 4) (hb : Below w0.heap.size w0 w) (hg0 : w0.heap.size ≤ g)
  (hg : w.heap[g]? = some (.cells #[.int .u32 0, .int .u32 0, .int .u32 0, .int .u32 0] 130 (0, 0))) (hsp : splice [Value.int .u32 0, .int .u32 0, .int .u32 0, .int .u32 0] 0 (l.map (Value.int .u32)) = [a0, a1, a2, a3]) :
  ∃ w', (Builtin.copy_ #[58, 58] 3 #[.slice (some ⟨g, 0, none⟩) 4 4, .slice A l.length c]).run Tryz.prog w = .ok (.int .i64 (l.length : Int)) w' ∧ w'.heap[g]? = some (.cells #[a0, a1, a2, a3] 130 (0, 0)) ∧ Below w0.heap.size w0 w' := by
 have hsz : (Tryz.prog.info? 35).map (·.size) = some 1 := by kernel_rfl
 by_cases h0 : l.length = 0
 ·obtain rfl : l = [] := List.eq_nil_of_length_eq_zero h0
  refine ⟨w, run_copy_none (P := Tryz.prog) w 58 58 3 35 _ _ 4 4 0 c Tryz.underlying58 hsz rfl, ?_, hb⟩
  have : [Value.int .u32 0, .int .u32 0, .int .u32 0, .int .u32 0] = [a0, a1, a2, a3] := hsp
  injection this with e0 this
  injection this with e1 this
  injection this with e2 this
  injection this with e3 this
  subst e0; subst e1; subst e2; subst e3
  exact hg
 ·obtain ⟨_, ad, hA, hsrc⟩ := copy_src h g (by rw [List.length_map]; omega)
  subst hA
  have hrun := run_copy_row (P := Tryz.prog) w 58 58 3 35 g 0 4 4 ad l.length c #[.int .u32 0, .int .u32 0, .int .u32 0, .int .u32 0] 130 (l.map (Value.int .u32)) Tryz.underlying58 hsz hg (by rw [List.length_map]; exact (Nat.min_eq_left hl).symm) hsrc (by rw [List.length_map]; show 0 + _ ≤ 4; omega) (fun v hv => by
   obtain ⟨x, _, rfl⟩ := List.mem_map.1 hv
   rfl)
  refine ⟨_, by rw [List.length_map] at hrun; exact hrun, ?_, below_setRow hb hg0 _⟩
  have e : (Array.toList #[Value.int .u32 0, .int .u32 0, .int .u32 0, .int .u32 0]).take 0 ++ l.map (Value.int .u32) ++ (Array.toList #[Value.int .u32 0, .int .u32 0, .int .u32 0, .int .u32 0]).drop (0 + l.length) = [a0, a1, a2, a3] := by rw [← hsp]; unfold splice; rw [List.append_assoc, List.length_map]
  rw [e]
  exact setRow_heap w g _ _ 130 _ hg
set_option maxHeartbeats 4000000 in
set_option maxRecDepth 100000 in
/-- at most 128 digits: no cut -/
theorem s_make_short (w : World) (neg : Bool) {v : Value} (m : Nat) (hv : Nm w v m) (hm : m < 2 ^ 128) (e : Int) (he : -100000 ≤ e) (he2 : e ≤ 100000) :
  Calls Tryz.prog 71 #[.bool neg, v, .int .i64 e] w fun x w' => x = .returned (.int .u64 ((sg neg (packN m e 0) : Nat) : Int)) ∧ Below w.heap.size w w' := by
 have hf : Fit m := fit_lt hm (by omega)
 have hl4 : (Num.wordsN m).length ≤ 4 := wordsN_len (by rw [show (4294967296 : Nat) ^ 4 = 2 ^ 128 from rfl]; exact hm)
 have HN := Aside0.mk (n_NormN hv hf)
 have HB := Aside0.mk (Below.refl w.heap.size w)
 have HBits := Aside0.mk (fun (w : World) (v : Value) (h : Nm w v m) => n_Bits h hf)
 have hb := bits_le_128 hm
 obtain ⟨b, hbn⟩ : ∃ b : Int, ((Num.bitsN m : Nat) : Int) = b := ⟨_, rfl⟩
 rw [hbn] at HBits
 have hw1 : IntKind.i64.wrap (b - 128) = b - 128 := i64w_id (by omega) (by omega)
 obtain ⟨n, hn⟩ : ∃ z : Int, b - 128 = z := ⟨_, rfl⟩
 have hw2 : IntKind.i64.wrap (b - 128) = n := by rw [hw1]; exact hn
 have c1 := decide_eq_false (show ¬ (0 : Int) < n by omega)
 have hc : clamp e = e := by unfold clamp; omega
 have m1 : (if e < -100000 then -100000 else e) = e := if_neg (by omega)
 have m2 : (if 100000 < e then 100000 else e) = e := if_neg (by omega)
 have m3 : max e (-100000) = e := by omega
 have m4 : min e 100000 = e := by omega
 obtain ⟨L, hL⟩ : ∃ z : Nat, (Num.wordsN m).length = z := ⟨_, rfl⟩
 rw [hL] at hl4
 have c2 := decide_eq_false (show ¬ (1000 : Int) < (L : Int) by omega)
 have hL' := Aside0.mk hL
 have hl4' := Aside0.mk hl4
 have hc' := Aside0.mk hc
 clear hbn hw1 hn hb hc hL hl4 he he2 hv
 go_enter Tryz.func71, Tryz.ntmps71
 go_upto_region 2 with (first | (go_at_call 85; refine HN.out.mono ?_; rintro e w' ⟨r, rfl, hr, hb⟩; have n0_ := Aside0.mk (below_step HB.out hb); have hr' := Aside0.mk hr; clear HB hb hr; have HB := n0_; clear n0_))
 obtain ⟨A, c, hA, hAc, hC, hV⟩ := hr'.out.open
 rw [hL'.out] at hA hAc hC hV
 subst hA
 have hC' := Aside0.mk hC
 have hAc' := Aside0.mk hAc
 clear hV hC hAc
 go_upto_region 17 with (first | (go_at_call 38; refine (HBits.out _ _ hr'.out).mono ?_; rintro e w2 ⟨rfl, hb⟩; have n0_ := Aside0.mk (below_step HB.out hb); have n1_ := Aside0.mk (Kd.C_below hC'.out hb); clear HB hC' hb hr'; have HB := n0_; have hC' := n1_; clear n0_ n1_) | ((with_reducible refine gate_dst (N := 10) rfl ?_); refine box_event ?hg (N := 10) ?hd (cs := #[.int .u32 0, .int .u32 0, .int .u32 0, .int .u32 0]) (t := 130) ?hr ?_; (case hd => rfl); (case hg => rfl); (case hr => first | (go_simp; done) | (go_simp; rfl)); intro g hg w12 hbox hb; have n0_ := Aside0.mk (below_step HB.out hb); have n1_ := Aside0.mk hbox; have n2_ := Aside0.mk (Kd.C_below hC'.out hb); have n3_ := Aside0.mk ((by rw [hg]; exact (below_size HB.out)) : w.heap.size ≤ g); clear HB hC'; have HB := n0_; have BK := n1_; have hC' := n2_; have GE := n3_; clear n0_ n1_ n2_ n3_; clear hb hbox hg))
 have hsz : (Tryz.prog.info? 35).map (·.size) = some 1 := by kernel_rfl
 obtain ⟨x0, x1, x2, x3, l0, l1, l2, l3, hsp, hval⟩ := four (Num.wordsN m) (Num.wordsN_ok m) (by rw [hL'.out]; exact hl4'.out)
 rw [Num.wordsN_val] at hval
 obtain ⟨w13, hrun, hg13, hb13⟩ := copy4 (c := c) (w0 := w) (by rw [hL'.out]; exact hC'.out) (by rw [hL'.out]; exact hl4'.out) HB.out GE.out BK.out hsp
 rw [hL'.out] at hrun
 have BK' := Aside0.mk hg13
 have HB' := Aside0.mk hb13
 have l0' := Aside0.mk l0
 have l1' := Aside0.mk l1
 have l2' := Aside0.mk l2
 have l3' := Aside0.mk l3
 have hval' := Aside0.mk hval
 clear hg13 hb13 HB BK hC' hsp hsz l0 l1 l2 l3 hval
 go_upto_region 18 with (go_at_call 9999; skip)
 have z0 : w13.cell? ⟨g, 0, none⟩ = some (.int .u32 (x0 : Int)) := (blk_cell BK'.out 0).trans rfl
 have z1 : w13.cell? ⟨g, 1, none⟩ = some (.int .u32 (x1 : Int)) := (blk_cell BK'.out 1).trans rfl
 have z2 : w13.cell? ⟨g, 2, none⟩ = some (.int .u32 (x2 : Int)) := (blk_cell BK'.out 2).trans rfl
 have z3 : w13.cell? ⟨g, 3, none⟩ = some (.int .u32 (x3 : Int)) := (blk_cell BK'.out 3).trans rfl
 have cv : ∀ x : Nat, x < 4294967296 → IntKind.u64.wrap (x : Int) = (x : Int) ∧ IntKind.u64.wrap ((x : Int) * 4294967296) = (x : Int) * 4294967296 := fun x hx => by rw [IntKind.wrap_u64, IntKind.wrap_u64]; omega
 have jn : ∀ x y : Nat, x < 4294967296 → y < 4294967296 → bits .or .u64 ((x : Int) * 4294967296) (y : Int) = ((x * 4294967296 + y : Nat) : Int) := fun x y hx hy => by
  rw [show (x : Int) * 4294967296 = ((x * 4294967296 : Nat) : Int) by omega, u64_or_nat _ _ (by omega) (by omega), nat_join 32 _ _ (Nat.mul_mod_left _ _) hy]
 obtain ⟨v0, u0⟩ := cv x0 l0'.out
 obtain ⟨v1, u1⟩ := cv x1 l1'.out
 obtain ⟨v2, u2⟩ := cv x2 l2'.out
 obtain ⟨v3, u3⟩ := cv x3 l3'.out
 have b0 := l0'.out
 have b1 := l1'.out
 have b2 := l2'.out
 have b3 := l3'.out
 have bv := hval'.out
 have j1 := jn x3 x2 b3 b2
 have j0 := jn x1 x0 b1 b0
 have hhi : ((x3 * 4294967296 + x2 : Nat) : Int) = hiW m := by unfold hiW; congr 1; omega
 have hlo : ((x1 * 4294967296 + x0 : Nat) : Int) = loW m := by unfold loW; congr 1; omega
 rw [hhi] at j1
 rw [hlo] at j0
 have HP : Aside0 (∀ w, Calls Tryz.prog 118 #[.bool neg, .int .u64 (hiW m), .int .u64 (loW m), .int .i64 e, .bool false] w fun x w' => x = .returned (.int .u64 ((sg neg (packN m e 0) : Nat) : Int)) ∧ Below w.heap.size w w') := ⟨fun w => by have := s_pack w neg m hm e false; rw [hc'.out] at this; exact this⟩
 clear b0 b1 b2 b3 bv hhi hlo cv jn
 go_wp2_with (go_at_call 118; (with_reducible refine (HP.out _).mono ?_); rintro e w' ⟨rfl, hb⟩; have n0_ := Aside0.mk (below_step HB'.out hb); clear HB' hb; have HB' := n0_; clear n0_)
 go_ret
 exact ⟨rfl, by repeat (first | exact HB'.out | apply pw_below_drewN)⟩
set_option maxHeartbeats 8000000 in
set_option maxRecDepth 100000 in
/-- more than 128 digits: cut, with what is lost told by the rest -/
theorem s_make_long (w : World) (neg : Bool) {v : Value} (m : Nat) (hv : Nm w v m) (n : Nat) (hn : Num.bitsN m = n + 128) (hn0 : 0 < n) (hn1 : n ≤ 31000) (e : Int) (he : -100000 ≤ e) (he2 : e + n ≤ 100000) :
  Calls Tryz.prog 71 #[.bool neg, v, .int .i64 e] w fun x w' => x = .returned (.int .u64 ((sg neg (packN (m / 2 ^ n) (e + n) (if m % 2 ^ n = 0 then 0 else 1)) : Nat) : Int)) ∧ Below w.heap.size w w' := by
 obtain ⟨res, hres⟩ : ∃ z : Int, ((sg neg (packN (m / 2 ^ n) (e + n) (if m % 2 ^ n = 0 then 0 else 1)) : Nat) : Int) = z := ⟨_, rfl⟩
 rw [hres]
 have HRES := Aside0.mk hres
 clear hres
 have hlt := Num.bitsN_lt m
 have hm0 : 0 < m := by
  rcases Nat.eq_zero_or_pos m with h | h
  ·subst h; rw [Num.bitsN_zero] at hn; omega
  ·exact h
 have hle := Num.bitsN_le hm0
 have hf : Fit m := fit_lt hlt (by omega)
 have hL1 : (Num.wordsN m).length ≤ 1000 := len_lt hlt (by omega)
 have hL2 : n / 32 + 4 ≤ (Num.wordsN m).length := by
  have := wordsN_len_ge (v := m) (n := n / 32 + 3) (by
   refine Nat.le_trans ?_ hle
   rw [show (4294967296 : Nat) = 2 ^ 32 from rfl, ← Nat.pow_mul]
   exact Nat.pow_le_pow_right (by decide) (by omega))
  omega
 have F3 := Aside0.mk (And.intro hlt hle)
 clear hlt hle
 have HN := Aside0.mk (n_NormN hv hf)
 have HB := Aside0.mk (Below.refl w.heap.size w)
 have HBits := Aside0.mk (fun (w : World) (v : Value) (h : Nm w v m) => n_Bits h hf)
 have HS := Aside0.mk (fun (w : World) (v : Value) (h : Nm w v m) => n_Shr h hf n hn0 (by omega))
 obtain ⟨b, hbn⟩ : ∃ b : Int, ((Num.bitsN m : Nat) : Int) = b := ⟨_, rfl⟩
 rw [hbn] at HBits
 obtain ⟨nn, hnn⟩ : ∃ z : Int, (n : Int) = z := ⟨_, rfl⟩
 have hw1 : IntKind.i64.wrap (b - 128) = nn := by rw [i64w_id (by omega) (by omega)]; omega
 have c1 := decide_eq_true (show (0 : Int) < nn by omega)
 have m1 : (if e < -100000 then -100000 else e) = e := if_neg (by omega)
 have m2 : (if 100000 < e then 100000 else e) = e := if_neg (by omega)
 have m3 : max e (-100000) = e := by omega
 have m4 : min e 100000 = e := by omega
 obtain ⟨L, hL⟩ : ∃ z : Nat, (Num.wordsN m).length = z := ⟨_, rfl⟩
 rw [hL] at hL1 hL2
 have c2 := decide_eq_false (show ¬ (1000 : Int) < (L : Int) by omega)
 obtain ⟨k, hk⟩ : ∃ z : Nat, n / 32 = z := ⟨_, rfl⟩
 have hq : Int.tdiv nn 32 = (k : Int) := by rw [← hnn, ← hk]; rfl
 have hqA := Aside0.mk hq
 clear hq
 have hqB := Aside0.mk (show wrap64 (k : Int) = (k : Int) from i64_id (by omega) (by omega))
 have hL' := Aside0.mk hL
 have hL1' := Aside0.mk hL1
 have hL2' := Aside0.mk (show k + 4 ≤ L by omega)
 have F0 := Aside0.mk (And.intro hn (And.intro hn0 (And.intro hn1 (And.intro he he2))))
 have F1 := Aside0.mk hnn
 have F2 := Aside0.mk hk
 clear hbn hn hn0 hn1 hL hL1 hL2 he he2 hv hnn hk hm0 hf
 go_enter Tryz.func71, Tryz.ntmps71
 go_upto_region 2 with (first | (go_at_call 85; refine HN.out.mono ?_; rintro e w' ⟨r, rfl, hr, hb⟩; have n0_ := Aside0.mk (below_step HB.out hb); have hr' := Aside0.mk hr; clear HB hb hr; have HB := n0_; clear n0_))
 obtain ⟨A, c, hA, hAc, hC, hV⟩ := hr'.out.open
 rw [hL'.out] at hA hAc hC hV
 subst hA
 have hC' := Aside0.mk hC
 have hAc' := Aside0.mk hAc
 clear hV hC hAc
 go_upto_region 8 with (go_at_call 38; refine (HBits.out _ _ hr'.out).mono ?_; rintro e w2 ⟨rfl, hb⟩; have n0_ := Aside0.mk (below_step HB.out hb); have n1_ := Aside0.mk (Kd.C_below hC'.out hb); have n2_ := Aside0.mk (hr'.out.below hb); clear HB hC' hb hr'; have HB := n0_; have hC' := n1_; have hr' := n2_; clear n0_ n1_ n2_)
 obtain ⟨ad, rfl, -⟩ := Kd.at_int hC'.out 0 (by omega) (by have := hL2'.out; omega)
 have ck0 : (0 : Int) ≤ (k : Int) := by omega
 have ck1 : (k : Int) ≤ (c : Int) := by have := hL2'.out; have := hAc'.out; omega
 have ck2 : k ≤ c := by omega
 have hq := hqA.out
 have hqw := hqB.out
 go_upto_region 9 with (go_at_call 9999; skip)
 clear hq hqw
 have hLk := Aside0.mk (show k < L by have := hL2'.out; omega)
 have n0_ := Aside0.mk hr'.out
 clear hr'
 have hr' := n0_
 clear n0_
 go_loopg [7, 29] k (fun kq v7 v29 wr => ∃ (i : Nat), v29 = .int .i64 i ∧ v7 = .bool (anyW (Num.wordsN m) i) ∧ Aside0 (i + kq = k) ∧ Aside0 (Kd.C (Kd.int .u32) wr (some ad) L (Num.wordsN m)) ∧ Aside0 (Below w.heap.size w wr) ∧ Aside0 (Nm wr (.slice (some ad) L c) m))
 case atStart => exact ⟨0, rfl, rfl, ⟨by omega⟩, hC', HB, hr'⟩
 case round =>
  clear HB hC' hr'
  obtain ⟨i, rfl, rfl, HQ, hC', HB, hr'⟩ := hrel
  by_cases hlt : i < k
  ·obtain ⟨j, rfl⟩ : ∃ j, gk = j + 1 := ⟨gk - 1, by have := HQ.out; omega⟩
   have hiL : i < L := by have := hLk.out; omega
   have HQ' := Aside0.mk (show i + 1 + j = k by have := HQ.out; omega)
   have hcell := Kd.foot_int hC'.out (i : Int) (by omega) (by omega)
   rw [Int.toNat_natCast] at hcell
   have hs := anyW_succ (Num.wordsN m) i (by rw [hL'.out]; exact hiL)
   obtain ⟨x, hx⟩ : ∃ x, rd (Num.wordsN m) (i : Int) = x := ⟨_, rfl⟩
   rw [hx] at hcell hs
   have HS' := Aside0.mk hs
   have q1 : (i : Int) < (k : Int) := by omega
   have q2 : (0 : Int) ≤ (i : Int) := by omega
   have q3 : (i : Int) < (L : Int) := by omega
   have q4 : wrap64 ((i : Int) + 1) = ((i + 1 : Nat) : Int) := by have := hL1'.out; rw [i64_id (by omega) (by omega)]; omega
   have q5 : IntKind.i64.wrap ((i : Int) + 1) = ((i + 1 : Nat) : Int) := (i64_w _).trans q4
   clear hs hx
   cases hy : anyW (Num.wordsN m) i with
   | true =>
    go_wp2
    go_roundg j
    case measure => omega
    case rel => exact ⟨i + 1, by first | rfl | (rw [q5]) | (rw [q4]), by rw [HS'.out, hy]; rfl, HQ', hC', HB, hr'⟩
   | false =>
    go_wp2
    go_roundg j
    case measure => omega
    case rel => exact ⟨i + 1, by first | rfl | (rw [q5]) | (rw [q4]), by rw [HS'.out, hy]; rfl, HQ', hC', HB, hr'⟩
  ·obtain rfl : gk = 0 := by have := HQ.out; omega
   obtain rfl : k = i := by have := HQ.out; omega
   have q1 : ¬ (k : Int) < (k : Int) := by omega
   go_upto_region 13 with (go_at_call 9999; skip)
   clear q1
   have hcell := Kd.foot_int hC'.out (k : Int) (by omega) (by have := hL2'.out; omega)
   rw [Int.toNat_natCast] at hcell
   have ok := Num.wordsN_ok m
   have q1 : (0 : Int) ≤ (k : Int) := by omega
   have q2 : (k : Int) < (L : Int) := by have := hL2'.out; omega
   obtain ⟨r, hrr⟩ : ∃ z : Nat, n % 32 = z := ⟨_, rfl⟩
   have hr0 : (0 : Int) ≤ (r : Int) := by omega
   have hkL := Aside0.mk (show k < L by have := hL2'.out; omega)
   have hr32 := Aside0.mk (show r < 32 by omega)
   have hmod : Int.tmod nn 32 = (r : Int) := by rw [← F1.out, ← hrr]; rfl
   have hq := hqA.out
   have hqw := hqB.out
   clear ok
   have hMA := Aside0.mk (show m / 2 ^ n < 2 ^ 128 by
    obtain ⟨f1, _⟩ := F3.out
    obtain ⟨g1, _⟩ := F0.out
    rw [Nat.div_lt_iff_lt_mul (Nat.two_pow_pos n), ← Nat.pow_add, Nat.add_comm, ← g1]
    exact f1)
   have hlost := lost_eq (Num.wordsN_ok m) F2.out hrr (by rw [hL'.out]; exact hkL.out)
   rw [Num.wordsN_val] at hlost
   have hmask := mask_eq (Num.wordsN_ok m) (k := k) (r := r) (by rw [hL'.out]; exact hkL.out) hr32.out
   obtain ⟨lb, hlb⟩ : ∃ z : Bool, decide (m % 2 ^ n ≠ 0) = z := ⟨_, rfl⟩
   rw [hlb] at hlost
   obtain ⟨mm, hmm⟩ : ∃ z : Int, -nn = z := ⟨_, rfl⟩
   have HS2 := Aside0.mk HS.out
   rw [F1.out, hmm] at HS2
   have wn : IntKind.i64.wrap (-nn) = mm := by rw [hmm]; clear hq hqw hmod; obtain ⟨_, _, g3, _⟩ := F0.out; have := F1.out; rw [i64w_id (by omega) (by omega)]
   obtain ⟨en, hen⟩ : ∃ z : Int, e + nn = z := ⟨_, rfl⟩
   have we : IntKind.i64.wrap (e + nn) = en := by clear hq hqw hmod wn; obtain ⟨_, g2, g3, g4, g5⟩ := F0.out; have := F1.out; rw [i64w_id (by omega) (by omega)]; exact hen
   have HLB := Aside0.mk hlb
   have HEN := Aside0.mk hen
   clear hlb hen hmm
   cases hy : anyW (Num.wordsN m) k with
   | true =>
    rw [hy] at hlost
    obtain rfl : lb = true := hlost
    clear hmask
    go_quiet (go_at_call 9999)
    go_upto_region 17 with (first | (go_at_call 117; refine (HS2.out _ _ (Kd.V_drewN hr'.out _)).mono ?_; rintro e w2 ⟨r2, rfl, hr2, hb⟩; have n0_ := Aside0.mk (below_step (pw_below_drewN HB.out _) hb); have n1_ := Aside0.mk hr2; clear HB hC' hb hr' hr2; have HB := n0_; have hr' := n1_; clear n0_ n1_) | ((with_reducible refine gate_dst (N := 10) rfl ?_); refine box_event ?hg (N := 10) ?hd (cs := #[.int .u32 0, .int .u32 0, .int .u32 0, .int .u32 0]) (t := 130) ?hr ?_; (case hd => rfl); (case hg => rfl); (case hr => first | (go_simp; done) | (go_simp; rfl)); intro g hg w12 hbox hb; have n0_ := Aside0.mk (below_step HB.out hb); have n1_ := Aside0.mk hbox; have n2_ := Aside0.mk (hr'.out.below hb); have n3_ := Aside0.mk ((by rw [hg]; exact (below_size HB.out)) : w.heap.size ≤ g); clear HB hr'; have HB := n0_; have BK := n1_; have hr' := n2_; have GE := n3_; clear n0_ n1_ n2_ n3_; clear hb hbox hg))
    clear hq hqw hmod hqA hqB wn we m1 m2 m3 m4 hw1
    obtain ⟨Ax, cx, hAx, hAcx, hCx, -⟩ := hr'.out.open
    subst hAx
    have hM := hMA.out
    have hl4 : (Num.wordsN (m / 2 ^ n)).length ≤ 4 := wordsN_len (by rw [show (4294967296 : Nat) ^ 4 = 2 ^ 128 from rfl]; exact hM)
    obtain ⟨x0, x1, x2, x3, l0, l1, l2, l3, hsp, hval⟩ := four (Num.wordsN (m / 2 ^ n)) (Num.wordsN_ok _) hl4
    rw [Num.wordsN_val] at hval
    obtain ⟨w13, hrun, hg13, hb13⟩ := copy4 (c := cx) (w0 := w) hCx hl4 HB.out GE.out BK.out hsp
    have BK' := Aside0.mk hg13
    have HB' := Aside0.mk hb13
    have cv : ∀ x : Nat, x < 4294967296 → IntKind.u64.wrap (x : Int) = (x : Int) ∧ IntKind.u64.wrap ((x : Int) * 4294967296) = (x : Int) * 4294967296 := fun x hx => by rw [IntKind.wrap_u64, IntKind.wrap_u64]; omega
    have jn : ∀ x y : Nat, x < 4294967296 → y < 4294967296 → bits .or .u64 ((x : Int) * 4294967296) (y : Int) = ((x * 4294967296 + y : Nat) : Int) := fun x y hx hy => by
     rw [show (x : Int) * 4294967296 = ((x * 4294967296 : Nat) : Int) by omega, u64_or_nat _ _ (by omega) (by omega), nat_join 32 _ _ (Nat.mul_mod_left _ _) hy]
    obtain ⟨v0, u0⟩ := cv x0 l0
    obtain ⟨v1, u1⟩ := cv x1 l1
    obtain ⟨v2, u2⟩ := cv x2 l2
    obtain ⟨v3, u3⟩ := cv x3 l3
    have j1 := jn x3 x2 l3 l2
    have j0 := jn x1 x0 l1 l0
    obtain ⟨M, hMM⟩ : ∃ z : Nat, m / 2 ^ n = z := ⟨_, rfl⟩
    rw [hMM] at hval hM
    have hhi : ((x3 * 4294967296 + x2 : Nat) : Int) = hiW M := by unfold hiW; congr 1; clear cv jn; omega
    have hlo : ((x1 * 4294967296 + x0 : Nat) : Int) = loW M := by unfold loW; congr 1; clear cv jn; omega
    rw [hhi] at j1
    rw [hlo] at j0
    have hcl : clamp en = en := by
     obtain ⟨_, g2, g3, g4, g5⟩ := F0.out
     have g6 := F1.out
     have g7 := HEN.out
     unfold clamp
     clear v0 v1 v2 v3 u0 u1 u2 u3 j0 j1 cv jn
     omega
    have hif : (if m % 2 ^ n = 0 then 0 else 1) = (if true then 1 else 0 : Nat) := by
     have := HLB.out
     rw [if_neg (of_decide_eq_true this), if_pos rfl]
    have HP : Aside0 (∀ w, Calls Tryz.prog 118 #[.bool neg, .int .u64 (hiW M), .int .u64 (loW M), .int .i64 en, .bool true] w fun x w' => x = .returned (.int .u64 res) ∧ Below w.heap.size w w') := ⟨fun w => by
     have := s_pack w neg M hM en true
     rw [hcl] at this
     rw [← HRES.out, hif, F1.out, HEN.out, hMM]
     exact this⟩
    have hLx := Aside0.mk hl4
    clear hhi hlo cv jn hcl hif hl4 hval hM l0 l1 l2 l3 hMM hsp hg13 hb13 hCx hAcx
    go_upto_region 18 with (go_at_call 9999; skip)
    have z0 : w13.cell? ⟨g, 0, none⟩ = some (.int .u32 (x0 : Int)) := (blk_cell BK'.out 0).trans rfl
    have z1 : w13.cell? ⟨g, 1, none⟩ = some (.int .u32 (x1 : Int)) := (blk_cell BK'.out 1).trans rfl
    have z2 : w13.cell? ⟨g, 2, none⟩ = some (.int .u32 (x2 : Int)) := (blk_cell BK'.out 2).trans rfl
    have z3 : w13.cell? ⟨g, 3, none⟩ = some (.int .u32 (x3 : Int)) := (blk_cell BK'.out 3).trans rfl
    go_wp2_with (go_at_call 118; (with_reducible refine (HP.out _).mono ?_); rintro e w' ⟨rfl, hb⟩; have n0_ := Aside0.mk (below_step HB'.out hb); clear HB' hb; have HB' := n0_; clear n0_)
    go_ret
    exact ⟨rfl, by repeat (first | exact HB'.out | apply pw_below_drewN)⟩
   | false =>
    rw [hy] at hlost
    rw [show (false || decide ((rd (Num.wordsN m) (k : Int)).toNat % 2 ^ r ≠ 0)) = decide ((rd (Num.wordsN m) (k : Int)).toNat % 2 ^ r ≠ 0) from rfl, ← hmask] at hlost
    replace hlost := hlost.symm
    clear hmask
    go_quiet (go_at_call 9999)
    go_upto_region 17 with (first | (go_at_call 117; refine (HS2.out _ _ (Kd.V_drewN hr'.out _)).mono ?_; rintro e w2 ⟨r2, rfl, hr2, hb⟩; have n0_ := Aside0.mk (below_step (pw_below_drewN HB.out _) hb); have n1_ := Aside0.mk hr2; clear HB hC' hb hr' hr2; have HB := n0_; have hr' := n1_; clear n0_ n1_) | ((with_reducible refine gate_dst (N := 10) rfl ?_); refine box_event ?hg (N := 10) ?hd (cs := #[.int .u32 0, .int .u32 0, .int .u32 0, .int .u32 0]) (t := 130) ?hr ?_; (case hd => rfl); (case hg => rfl); (case hr => first | (go_simp; done) | (go_simp; rfl)); intro g hg w12 hbox hb; have n0_ := Aside0.mk (below_step HB.out hb); have n1_ := Aside0.mk hbox; have n2_ := Aside0.mk (hr'.out.below hb); have n3_ := Aside0.mk ((by rw [hg]; exact (below_size HB.out)) : w.heap.size ≤ g); clear HB hr'; have HB := n0_; have BK := n1_; have hr' := n2_; have GE := n3_; clear n0_ n1_ n2_ n3_; clear hb hbox hg))
    clear hq hqw hmod hqA hqB wn we m1 m2 m3 m4 hw1
    obtain ⟨Ax, cx, hAx, hAcx, hCx, -⟩ := hr'.out.open
    subst hAx
    have hM := hMA.out
    have hl4 : (Num.wordsN (m / 2 ^ n)).length ≤ 4 := wordsN_len (by rw [show (4294967296 : Nat) ^ 4 = 2 ^ 128 from rfl]; exact hM)
    obtain ⟨x0, x1, x2, x3, l0, l1, l2, l3, hsp, hval⟩ := four (Num.wordsN (m / 2 ^ n)) (Num.wordsN_ok _) hl4
    rw [Num.wordsN_val] at hval
    obtain ⟨w13, hrun, hg13, hb13⟩ := copy4 (c := cx) (w0 := w) hCx hl4 HB.out GE.out BK.out hsp
    have BK' := Aside0.mk hg13
    have HB' := Aside0.mk hb13
    have cv : ∀ x : Nat, x < 4294967296 → IntKind.u64.wrap (x : Int) = (x : Int) ∧ IntKind.u64.wrap ((x : Int) * 4294967296) = (x : Int) * 4294967296 := fun x hx => by rw [IntKind.wrap_u64, IntKind.wrap_u64]; omega
    have jn : ∀ x y : Nat, x < 4294967296 → y < 4294967296 → bits .or .u64 ((x : Int) * 4294967296) (y : Int) = ((x * 4294967296 + y : Nat) : Int) := fun x y hx hy => by
     rw [show (x : Int) * 4294967296 = ((x * 4294967296 : Nat) : Int) by omega, u64_or_nat _ _ (by omega) (by omega), nat_join 32 _ _ (Nat.mul_mod_left _ _) hy]
    obtain ⟨v0, u0⟩ := cv x0 l0
    obtain ⟨v1, u1⟩ := cv x1 l1
    obtain ⟨v2, u2⟩ := cv x2 l2
    obtain ⟨v3, u3⟩ := cv x3 l3
    have j1 := jn x3 x2 l3 l2
    have j0 := jn x1 x0 l1 l0
    obtain ⟨M, hMM⟩ : ∃ z : Nat, m / 2 ^ n = z := ⟨_, rfl⟩
    rw [hMM] at hval hM
    have hhi : ((x3 * 4294967296 + x2 : Nat) : Int) = hiW M := by unfold hiW; congr 1; clear cv jn; omega
    have hlo : ((x1 * 4294967296 + x0 : Nat) : Int) = loW M := by unfold loW; congr 1; clear cv jn; omega
    rw [hhi] at j1
    rw [hlo] at j0
    have hcl : clamp en = en := by
     obtain ⟨_, g2, g3, g4, g5⟩ := F0.out
     have g6 := F1.out
     have g7 := HEN.out
     unfold clamp
     clear v0 v1 v2 v3 u0 u1 u2 u3 j0 j1 cv jn
     omega
    have hif : (if m % 2 ^ n = 0 then 0 else 1) = (if lb then 1 else 0 : Nat) := by
     have := HLB.out
     cases lb with
     | true => rw [if_neg (of_decide_eq_true this), if_pos rfl]
     | false => rw [if_pos (Decidable.not_not.1 (of_decide_eq_false this)), if_neg (by decide)]
    have HP : Aside0 (∀ w, Calls Tryz.prog 118 #[.bool neg, .int .u64 (hiW M), .int .u64 (loW M), .int .i64 en, .bool lb] w fun x w' => x = .returned (.int .u64 res) ∧ Below w.heap.size w w') := ⟨fun w => by
     have := s_pack w neg M hM en lb
     rw [hcl] at this
     rw [← HRES.out, hif, F1.out, HEN.out, hMM]
     exact this⟩
    have hLx := Aside0.mk hl4
    clear hhi hlo cv jn hcl hif hl4 hval hM l0 l1 l2 l3 hMM hsp hg13 hb13 hCx hAcx
    go_upto_region 18 with (go_at_call 9999; skip)
    have z0 : w13.cell? ⟨g, 0, none⟩ = some (.int .u32 (x0 : Int)) := (blk_cell BK'.out 0).trans rfl
    have z1 : w13.cell? ⟨g, 1, none⟩ = some (.int .u32 (x1 : Int)) := (blk_cell BK'.out 1).trans rfl
    have z2 : w13.cell? ⟨g, 2, none⟩ = some (.int .u32 (x2 : Int)) := (blk_cell BK'.out 2).trans rfl
    have z3 : w13.cell? ⟨g, 3, none⟩ = some (.int .u32 (x3 : Int)) := (blk_cell BK'.out 3).trans rfl
    go_wp2_with (go_at_call 118; (with_reducible refine (HP.out _).mono ?_); rintro e w' ⟨rfl, hb⟩; have n0_ := Aside0.mk (below_step HB'.out hb); clear HB' hb; have HB' := n0_; clear n0_)
    go_ret
    exact ⟨rfl, by repeat (first | exact HB'.out | apply pw_below_drewN)⟩
end Go.Proofs.YtdoeigngpemcgaaGreatDoor.Dec
namespace Go.Proofs.YtdoeigngpemcgaaGreatDoor.Dec
set_option linter.unusedVariables false
open Go.RowKit Go.Flt Go.Proofs.YtdoeigngpemcgaaGreatDoor.Pure Go.Proofs.YtdoeigngpemcgaaGreatDoorW.PrintWords Go.Proofs.YtdoeigngpemcgaaGreatDoorW.PrintLast Go.Proofs.YtdoeigngpemcgaaGreatDoorW.PrintMore
theorem packN_mk (m : Nat) (e : Int) : packN m e 0 = mkN m e := by
 rcases Nat.eq_zero_or_pos m with h | h
 ·subst h
  unfold packN mkN
  rw [if_pos rfl, if_pos rfl]
 ·rw [packN_eq h (by decide) (fun h => absurd h (by decide)), Nat.add_zero, mkN_double]
theorem packN_cut {m n : Nat} (e : Int) (hn : Num.bitsN m = n + 128) (hn0 : 0 < n) : packN (m / 2 ^ n) (e + n) (if m % 2 ^ n = 0 then 0 else 1) = mkN m e := by
 have hb : Num.bitsN (m / 2 ^ n) = 128 := bits_div (n := 127) (by omega)
 have hpos : 0 < m / 2 ^ n := by
  rcases Nat.eq_zero_or_pos (m / 2 ^ n) with h | h
  ·rw [h, Num.bitsN_zero] at hb
   omega
  ·exact h
 rw [packN_eq hpos (by split <;> decide) (fun _ => by unfold expo; omega)]
 exact make_cut e (by omega)
theorem s_Make (w : World) (neg : Bool) {v : Value} (m : Nat) (hv : Nm w v m) (hb : Num.bitsN m ≤ 31000) (e : Int) (he : -100000 ≤ e) (he2 : e ≤ 100000) (he3 : e + Num.bitsN m ≤ 100128) :
  Calls Tryz.prog 71 #[.bool neg, v, .int .i64 e] w fun x w' => x = .returned (.int .u64 ((sg neg (mkN m e) : Nat) : Int)) ∧ Below w.heap.size w w' := by
 by_cases h : Num.bitsN m ≤ 128
 ·have hm : m < 2 ^ 128 := Nat.lt_of_lt_of_le (Num.bitsN_lt m) (Nat.pow_le_pow_right (by decide) h)
  rw [← packN_mk]
  exact s_make_short w neg m hv hm e he he2
 ·obtain ⟨n, hn⟩ : ∃ n, Num.bitsN m = n + 128 := ⟨Num.bitsN m - 128, by omega⟩
  rw [← packN_cut e hn (by omega)]
  exact s_make_long w neg m hv n hn (by omega) (by omega) e he (by omega)
end Go.Proofs.YtdoeigngpemcgaaGreatDoor.Dec
namespace Go.Proofs.YtdoeigngpemcgaaGreatDoor.Dec
open Go.RowKit Go.Proofs.YtdoeigngpemcgaaGreatDoorW.PrintWords Go.Proofs.YtdoeigngpemcgaaGreatDoorW.PrintLast Go.Proofs.YtdoeigngpemcgaaGreatDoorW.PrintMore
attribute [local go_sem] max2_int min2_int max_two min_two max_three min_three max_four min_four
set_option linter.unusedVariables false
set_option linter.unusedSimpArgs false
theorem d_times (w : World) {v u : Value} {a b : Nat} (h0 : Nm w v a) (h1 : Nm w u b) (fa : Fit a) (fb : Fit b) (hf : Fit (a * b)) :
  Calls Tryz.prog 73 #[v, u] w fun e w' => ∃ r, e = .returned r ∧ Nm w' r (a * b) ∧ Below w.heap.size w w' := by
 have HM := Aside0.mk (n_Mul h0 h1 fa fb hf)
 clear h0 h1
 go_enter Tryz.func73, Tryz.ntmps73
 go_wp2_with (go_at_call 121; refine HM.out.mono ?_; rintro e w' ⟨r, rfl, hr, hb⟩; have hr' := Aside0.mk hr; have hb' := Aside0.mk hb; clear hr hb)
 go_ret
 exact ⟨_, rfl, hr'.out, hb'.out⟩
theorem d_shifted (w : World) {v : Value} {a : Nat} (h0 : Nm w v a) (fa : Fit a) (m : Nat) (hm : m ≤ 64000) (hf : Fit (a * 2 ^ m)) :
  Calls Tryz.prog 76 #[v, .int .i64 (m : Int)] w fun e w' => ∃ r, e = .returned r ∧ Nm w' r (a * 2 ^ m) ∧ Below w.heap.size w w' := by
 have HM := Aside0.mk (n_Shl h0 fa m hm hf)
 obtain ⟨mm, hmm⟩ : ∃ z : Int, (m : Int) = z := ⟨_, rfl⟩
 rw [hmm] at HM ⊢
 clear h0
 go_enter Tryz.func76, Tryz.ntmps76
 go_wp2_with (go_at_call 117; refine HM.out.mono ?_; rintro e w' ⟨r, rfl, hr, hb⟩; have hr' := Aside0.mk hr; have hb' := Aside0.mk hb; clear hr hb)
 go_ret
 exact ⟨_, rfl, hr'.out, hb'.out⟩
theorem d_ten (w : World) (n : Int) (hn : n ≤ 1500) :
  Calls Tryz.prog 74 #[.int .i64 n] w fun e w' => ∃ r, e = .returned r ∧ Nm w' r (10 ^ n.toNat) ∧ Below w.heap.size w w' := by
 obtain ⟨c, hc⟩ : ∃ c : Int, max n 0 = c := ⟨_, rfl⟩
 have hc' : c = (n.toNat : Int) := by omega
 have hcb : (if n < 0 then 0 else n) = c := by split <;> omega
 have hrep : ∀ k, Lib.repeatL [48] k = List.replicate k 48 := fun k => by
  induction k with
  | zero => rfl
  | succ k ih => rw [Lib.repeatL, ih, List.replicate_succ]; rfl
 have hdec : ∀ k, Num.decL 0 (49 :: List.replicate k 48) = 10 ^ k := fun k => by
  have h : ∀ k a, Num.decL a (List.replicate k 48) = a * 10 ^ k := fun k => by
   induction k with
   | zero => intro a; exact (Nat.mul_one a).symm
   | succ k ih =>
    intro a
    have h1 : Num.decL a (List.replicate (k + 1) 48) = Num.decL (a * 10 + 0) (List.replicate k 48) := rfl
    rw [h1, ih, Nat.pow_succ, Nat.add_zero, Nat.mul_assoc, Nat.mul_comm (10 ^ k) 10]
  have h1 : Num.decL 0 (49 :: List.replicate k 48) = Num.decL 1 (List.replicate k 48) := rfl
  rw [h1, h]
  exact Nat.one_mul _
 have hfit : Fit (10 ^ n.toNat) := by
  refine fit_lt (b := 4 * n.toNat + 1) ?_ (by omega)
  rw [Nat.pow_succ, Nat.pow_mul]
  have := Nat.pow_le_pow_left (show 10 ≤ 2 ^ 4 by decide) n.toNat
  have h1 := Nat.two_pow_pos (4 * n.toNat)
  rw [Nat.pow_mul] at h1
  omega
 have HP : Aside0 (∀ w, Calls Tryz.prog 72 #[.string ⟨(49 :: List.replicate n.toNat 48).toArray⟩] w fun e w' => ∃ v, e = .returned (.tuple #[v, .int .i64 0]) ∧ Nm w' v (10 ^ n.toNat) ∧ Below w.heap.size w w') := ⟨fun w => by
  have := n_Parse (w := w) ⟨(49 :: List.replicate n.toNat 48).toArray⟩ (by unfold Num.digs; rw [List.all_eq_true]; intro x hx; rcases List.mem_cons.1 hx with rfl | hx; decide; rw [List.eq_of_mem_replicate hx]; decide) (by simp) (by simp; omega) (by show Fit (Num.decL 0 (49 :: List.replicate n.toNat 48)); rw [hdec]; exact hfit)
  show Calls Tryz.prog 72 _ w _
  rw [show Num.decL 0 (⟨(49 :: List.replicate n.toNat 48).toArray⟩ : ByteArray).data.toList = 10 ^ n.toNat from hdec _] at this
  exact this⟩
 have HR : Aside0 (∀ w, Calls Tryz.prog 37 #[.string ⟨#[48]⟩, .int .i64 c] w fun e w' => e = .returned (.string ⟨(List.replicate n.toNat 48).toArray⟩) ∧ Below w.heap.size w w') := ⟨fun w => by
  rw [hc']
  rw [← hrep]; exact Tryz.strings_Repeat ⟨#[48]⟩ n.toNat w (by omega) (by show 1 * _ ≤ _; omega)⟩
 have hcat : (⟨#[49]⟩ : ByteArray) ++ ⟨(List.replicate n.toNat 48).toArray⟩ = ⟨(49 :: List.replicate n.toNat 48).toArray⟩ := by
  apply ByteArray.ext
  simp
 obtain ⟨zz, hz⟩ : ∃ z : ByteArray, (⟨(List.replicate n.toNat 48).toArray⟩ : ByteArray) = z := ⟨_, rfl⟩
 obtain ⟨yy, hy⟩ : ∃ z : ByteArray, (⟨(49 :: List.replicate n.toNat 48).toArray⟩ : ByteArray) = z := ⟨_, rfl⟩
 rw [hz, hy] at hcat
 rw [hz] at HR
 rw [hy] at HP
 have HB := Aside0.mk (Below.refl w.heap.size w)
 have hl : ¬ 9223372036854775807 < 1 + zz.size := by
  rw [← hz]
  show ¬ 9223372036854775807 < 1 + (List.replicate n.toNat (48 : UInt8)).toArray.size
  rw [List.size_toArray, List.length_replicate]
  omega
 clear hz hy hrep hdec hfit hc'
 go_enter Tryz.func74, Tryz.ntmps74
 go_wp2_with (first | (go_at_call 37; (with_reducible refine (HR.out _).mono ?_); rintro e w' ⟨rfl, hb⟩; have n0_ := Aside0.mk (below_step HB.out hb); clear HB hb; have HB := n0_; clear n0_) | (go_at_call 72; (with_reducible refine (HP.out _).mono ?_); rintro e w' ⟨r, rfl, hr, hb⟩; have n0_ := Aside0.mk (below_step HB.out hb); have hr' := Aside0.mk hr; clear HB hb hr; have HB := n0_; clear n0_))
 go_ret
 exact ⟨_, rfl, hr'.out, HB.out⟩
end Go.Proofs.YtdoeigngpemcgaaGreatDoor.Dec
namespace Go.Flt
open Go.Num
theorem mkN_pow (m k : Nat) (e : Int) : mkN (m * 2 ^ k) (e - k) = mkN m e := by
 induction k with
 | zero => rw [Nat.pow_zero, Nat.mul_one]; congr 1; omega
 | succ k ih =>
  rw [Nat.pow_succ, ← Nat.mul_assoc, Nat.mul_comm _ 2, show e - ((k + 1 : Nat) : Int) = e - k - 1 by omega, mkN_double]
  exact ih
theorem fl_one {p : Nat} (hp : 0 < p) : fl p 1 = mkN p 0 := by
 have h := fl_at (p := p) (q := 1) hp (by decide) (bitsN 1 + 53) (Nat.le_refl _)
 rw [← h]
 have : sq (p * 2 ^ (bitsN 1 + 53)) 1 = 2 * (p * 2 ^ (bitsN 1 + 53)) := by
  unfold sq
  rw [Nat.div_one, Nat.mod_one, if_pos rfl, Nat.add_zero]
 rw [this, mkN_double]
 have := mkN_pow p (bitsN 1 + 53) 0
 rw [Int.zero_sub] at this
 exact this
/-- digits m times ten to the e, as a pattern without a sign -/
def flt (m : Nat) (e : Int) : Nat := if m = 0 then 0 else if 0 ≤ e then fl (m * 10 ^ e.toNat) 1 else fl m (10 ^ (-e).toNat)
/-- a quotient cut with a rest is the float of it -/
theorem quo_dec {m d k : Nat} (hm : 0 < m) (hd : 0 < d) (hk : bitsN d + 53 ≤ k) : mkN (2 * (m * 2 ^ k / d) + (if m * 2 ^ k % d = 0 then 0 else 1)) (-(k : Int) - 1) = fl m d := by
 have h := fl_at hm hd k hk
 unfold sq at h
 exact h
end Go.Flt
namespace Go.Proofs.YtdoeigngpemcgaaGreatDoor.Dec
open Go.RowKit Go.Flt Go.Proofs.YtdoeigngpemcgaaGreatDoor.Pure Go.Proofs.YtdoeigngpemcgaaGreatDoorW.PrintWords Go.Proofs.YtdoeigngpemcgaaGreatDoorW.PrintLast Go.Proofs.YtdoeigngpemcgaaGreatDoorW.PrintMore
set_option linter.unusedVariables false
set_option linter.unusedSimpArgs false
set_option maxHeartbeats 4000000 in
/-- nothing but zeros, or far below -/
theorem d_float_zero (w : World) (neg : Bool) (s t : ByteArray) (ht : t = ⟨(Lib.trimLeftB s.data.toList 48).toArray⟩) (e : Int) (h : t = ⟨#[]⟩ ∨ e < -900) :
  Calls Tryz.prog 31 #[.bool neg, .string s, .int .i64 e] w fun x w' => x = .returned (.int .u64 ((sg neg 0 : Nat) : Int)) ∧ Below w.heap.size w w' := by
 have HT : Aside0 (∀ w, Calls Tryz.prog 69 #[.string s, .string ⟨#[48]⟩] w fun x w' => x = .returned (.string t) ∧ w' = w) := ⟨fun w => by rw [ht]; exact Tryz.strings_TrimLeft_one s 48 (by decide) w⟩
 have HM : Aside0 (∀ w, Calls Tryz.prog 71 #[.bool neg, .slice none 0 0, .int .i64 0] w fun x w' => x = .returned (.int .u64 ((sg neg 0 : Nat) : Int)) ∧ Below w.heap.size w w') := ⟨fun w => s_Make w neg 0 (Nm.nil w) (by rw [Num.bitsN_zero]; omega) 0 (by omega) (by omega) (by rw [Num.bitsN_zero]; omega)⟩
 have HB := Aside0.mk (Below.refl w.heap.size w)
 clear ht
 by_cases h0 : t = ⟨#[]⟩
 ·subst h0
  clear h
  go_enter Tryz.func31, Tryz.ntmps31
  go_wp2_with (first | (go_at_call 69; (with_reducible refine (HT.out _).mono ?_); rintro e w' ⟨rfl, rfl⟩) | (go_at_call 71; (with_reducible refine (HM.out _).mono ?_); rintro e w' ⟨rfl, hb⟩; have n0_ := Aside0.mk (below_step HB.out hb); clear HB hb; have HB := n0_; clear n0_))
  go_ret
  exact ⟨rfl, by repeat (first | exact HB.out | apply pw_below_drewN)⟩
 ·have he := h.resolve_left h0
  have c1 : decide (e < -900) = true := decide_eq_true he
  have c2 : ¬ t.toList = [] := fun h => h0 (by
   rw [Lib.toList_data] at h
   apply ByteArray.ext
   exact Array.toList_inj.1 h)
  have c3 : t.toList.isEmpty = false := by
   cases h : t.toList with
   | nil => exact absurd h c2
   | cons a b => rfl
  clear h he h0
  go_enter Tryz.func31, Tryz.ntmps31
  go_wp2_with (first | (go_at_call 69; (with_reducible refine (HT.out _).mono ?_); rintro e w' ⟨rfl, rfl⟩) | (go_at_call 71; (with_reducible refine (HM.out _).mono ?_); rintro e w' ⟨rfl, hb⟩; have n0_ := Aside0.mk (below_step HB.out hb); clear HB hb; have HB := n0_; clear n0_))
  go_ret
  exact ⟨rfl, by repeat (first | exact HB.out | apply pw_below_drewN)⟩
theorem words_one : Num.wordsN 1 = [1] := by
 rw [Num.wordsN_pos (by decide), Num.wordsN_zero]
 rfl
set_option maxHeartbeats 4000000 in
/-- far above -/
theorem d_float_inf (w : World) (neg : Bool) (s t : ByteArray) (ht : t = ⟨(Lib.trimLeftB s.data.toList 48).toArray⟩) (e : Int) (h0 : t ≠ ⟨#[]⟩) (h : 400 < e) :
  Calls Tryz.prog 31 #[.bool neg, .string s, .int .i64 e] w fun x w' => x = .returned (.int .u64 ((sg neg 9218868437227405312 : Nat) : Int)) ∧ Below w.heap.size w w' := by
 have HT : Aside0 (∀ w, Calls Tryz.prog 69 #[.string s, .string ⟨#[48]⟩] w fun x w' => x = .returned (.string t) ∧ w' = w) := ⟨fun w => by rw [ht]; exact Tryz.strings_TrimLeft_one s 48 (by decide) w⟩
 have hb1 : Num.bitsN 1 = 1 := by decide
 have hbig : mkN 1 100000 = 9218868437227405312 := mkN_big (by decide) (by unfold expo; rw [hb1]; omega)
 have HM : Aside0 (∀ w v, Nm w v 1 → Calls Tryz.prog 71 #[.bool neg, v, .int .i64 100000] w fun x w' => x = .returned (.int .u64 ((sg neg 9218868437227405312 : Nat) : Int)) ∧ Below w.heap.size w w') := ⟨fun w v hv => by
  rw [← hbig]
  exact s_Make w neg 1 hv (by rw [hb1]; omega) 100000 (by omega) (by omega) (by rw [hb1]; omega)⟩
 have HB := Aside0.mk (Below.refl w.heap.size w)
 have c2 : ¬ t.toList = [] := fun h => h0 (by
  rw [Lib.toList_data] at h
  apply ByteArray.ext
  exact Array.toList_inj.1 h)
 have c3 : t.toList.isEmpty = false := by
  cases h : t.toList with
  | nil => exact absurd h c2
  | cons a b => rfl
 have c4 : decide (e < -900) = false := decide_eq_false (by omega)
 have c5 : decide (400 < e) = true := decide_eq_true h
 clear ht h h0 hb1 hbig
 go_enter Tryz.func31, Tryz.ntmps31
 go_wp2_with (first | (go_at_call 69; (with_reducible refine (HT.out _).mono ?_); rintro e w' ⟨rfl, rfl⟩) | ((with_reducible refine gate_dst (N := 29) rfl ?_); refine Kd.R_lit (Kd.int .u32) _ 35 ?hg (N := 29) ?hd (xs := ([1] : List Int)) (inner := [.int .u32 1]) (ok := fun _ => True) (okp := fun _ => True) ?hr ?hp (fun _ hk => hk) trivial (Below.refl _ _) (Nat.le_refl _) (by simp) ?_; (case hd => rfl); (case hg => rfl); (case hr => first | (go_simp; done) | (go_simp; rfl)); (case hp => exact (Reps.one (show Kd.M (Kd.int .u32) _ _ _ 1 [.int .u32 1] from rfl) (Reps.none _ _))); intro v1 w1 ho hb hg_ hnew_; clear hg_ hnew_; have n0_ := Aside0.mk (show Nm w1 v1 1 from Nm.of_R (by rw [words_one]; exact ho)); have n1_ := Aside0.mk (below_step HB.out hb); clear ho hb HB; have hv := n0_; have HB := n1_; clear n0_ n1_) | (go_at_call 71; (refine (HM.out _ _ hv.out).mono ?_); rintro e w' ⟨rfl, hb⟩; have n0_ := Aside0.mk (below_step HB.out hb); clear HB hb; have HB := n0_; clear n0_))
 go_ret
 exact ⟨rfl, by repeat (first | exact HB.out | apply pw_below_drewN)⟩
theorem ten_lt (k : Nat) : 10 ^ k < 2 ^ (4 * k + 1) := by
 rw [Nat.pow_succ, Nat.pow_mul]
 have := Nat.pow_le_pow_left (show 10 ≤ 2 ^ 4 by decide) k
 have h1 := Nat.two_pow_pos (4 * k)
 rw [Nat.pow_mul] at h1
 omega
theorem dec_lt {l : List UInt8} {k A : Nat} (hd : Num.digs l = true) (hl : l.length ≤ k) (hA : 4 * k + 1 ≤ A) : Num.decL 0 l < 2 ^ A :=
 Nat.lt_of_lt_of_le (Nat.lt_trans (Nat.lt_of_lt_of_le (Num.decL_lt l (Num.digs_mem hd)) (Nat.pow_le_pow_right (by decide) hl)) (ten_lt k)) (Nat.pow_le_pow_right (by decide) hA)
theorem bits_lt {m b : Nat} (h : m < 2 ^ b) : Num.bitsN m ≤ b := by
 rcases Nat.eq_zero_or_pos m with z | z
 ·subst z; rw [Num.bitsN_zero]; omega
 ·rcases Nat.lt_or_ge b (Num.bitsN m) with q | q
  ·exfalso
   have h1 := Num.bitsN_le z
   have h3 : 2 ^ b ≤ 2 ^ (Num.bitsN m - 1) := Nat.pow_le_pow_right (by decide) (by omega)
   omega
  ·exact q
set_option maxHeartbeats 4000000 in
/-- a whole number -/
theorem d_float_pos (w : World) (neg : Bool) (s t : ByteArray) (ht : t = ⟨(Lib.trimLeftB s.data.toList 48).toArray⟩) (e : Int) (h0 : t ≠ ⟨#[]⟩) (hd : Num.digs t.data.toList = true) (hl : t.data.toList.length ≤ 400) (he0 : 0 ≤ e) (he : e ≤ 400) :
  Calls Tryz.prog 31 #[.bool neg, .string s, .int .i64 e] w fun x w' => x = .returned (.int .u64 ((sg neg (mkN (Num.decL 0 t.data.toList * 10 ^ e.toNat) 0) : Nat) : Int)) ∧ Below w.heap.size w w' := by
 have HT : Aside0 (∀ w, Calls Tryz.prog 69 #[.string s, .string ⟨#[48]⟩] w fun x w' => x = .returned (.string t) ∧ w' = w) := ⟨fun w => by rw [ht]; exact Tryz.strings_TrimLeft_one s 48 (by decide) w⟩
 obtain ⟨A, hA⟩ : ∃ A, A = 1601 := ⟨_, rfl⟩
 have hm := dec_lt (A := A) hd hl (by omega)
 have hten := ten_lt e.toNat
 have c2 : ¬ t.toList = [] := fun h => h0 (by
  rw [Lib.toList_data] at h
  apply ByteArray.ext
  exact Array.toList_inj.1 h)
 have hne : t.data.toList ≠ [] := by rw [← Lib.toList_data]; exact c2
 obtain ⟨m, hmm⟩ : ∃ m, Num.decL 0 t.data.toList = m := ⟨_, rfl⟩
 obtain ⟨p, hpp⟩ : ∃ p, 10 ^ e.toNat = p := ⟨_, rfl⟩
 have HTen := Aside0.mk (fun w => d_ten w e (by omega))
 have fm : Fit (Num.decL 0 t.data.toList) := fit_lt hm (by omega)
 have HP := Aside0.mk (fun w => n_Parse (w := w) t hd hne (by omega) fm)
 rw [hmm] at hm fm HP ⊢
 rw [hpp] at hten HTen ⊢
 have hten2 : p < 2 ^ A := Nat.lt_of_lt_of_le hten (Nat.pow_le_pow_right (by decide) (by omega))
 have fp : Fit p := fit_lt hten2 (by omega)
 have hprod : m * p < 2 ^ (A + A) := by
  rw [Nat.pow_add]
  exact Nat.mul_lt_mul'' hm hten2
 have HX := Aside0.mk (fun (w : World) (v u : Value) (h : Nm w v m) (k : Nm w u p) => d_times w h k fm fp (fit_lt hprod (by omega)))
 have hbits := bits_lt hprod
 have HM : Aside0 (∀ w v, Nm w v (m * p) → Calls Tryz.prog 71 #[.bool neg, v, .int .i64 0] w fun x w' => x = .returned (.int .u64 ((sg neg (mkN (m * p) 0) : Nat) : Int)) ∧ Below w.heap.size w w') := ⟨fun w v hv => s_Make w neg (m * p) hv (by omega) 0 (by omega) (by omega) (by omega)⟩
 have HB := Aside0.mk (Below.refl w.heap.size w)
 have c3 : t.toList.isEmpty = false := by
  cases h : t.toList with
  | nil => exact absurd h c2
  | cons a b => rfl
 have c4 : decide (e < -900) = false := decide_eq_false (by omega)
 have c5 : decide (400 < e) = false := decide_eq_false (by omega)
 have c6 : decide (0 ≤ e) = true := decide_eq_true he0
 obtain ⟨res, hres⟩ : ∃ z : Int, ((sg neg (mkN (m * p) 0) : Nat) : Int) = z := ⟨_, rfl⟩
 rw [hres] at HM ⊢
 clear ht h0 hm hten hmm hpp fm hten2 fp hprod hbits hA A hres hd hl hne he0 he
 go_enter Tryz.func31, Tryz.ntmps31
 go_wp2_with (first | (go_at_call 69; (with_reducible refine (HT.out _).mono ?_); rintro e w' ⟨rfl, rfl⟩) | (go_at_call 72; (with_reducible refine (HP.out _).mono ?_); rintro e w' ⟨r1, rfl, hr, hb⟩; have n0_ := Aside0.mk (below_step HB.out hb); have hv1 := Aside0.mk hr; clear HB hb hr; have HB := n0_; clear n0_) | (go_at_call 74; (with_reducible refine (HTen.out _).mono ?_); rintro e w' ⟨r2, rfl, hr, hb⟩; have n0_ := Aside0.mk (below_step HB.out hb); have hv2 := Aside0.mk hr; have n1_ := Aside0.mk (hv1.out.below hb); clear HB hb hr hv1; have HB := n0_; have hv1 := n1_; clear n0_ n1_) | (go_at_call 73; (refine (HX.out _ _ _ hv1.out hv2.out).mono ?_); rintro e w' ⟨r3, rfl, hr, hb⟩; have n0_ := Aside0.mk (below_step HB.out hb); have hv3 := Aside0.mk hr; clear HB hb hr; have HB := n0_; clear n0_) | (go_at_call 71; (refine (HM.out _ _ hv3.out).mono ?_); rintro e w' ⟨rfl, hb⟩; have n0_ := Aside0.mk (below_step HB.out hb); clear HB hb; have HB := n0_; clear n0_))
 go_ret
 exact ⟨rfl, by repeat (first | exact HB.out | apply pw_below_drewN)⟩
set_option maxHeartbeats 8000000 in
set_option maxRecDepth 100000 in
/-- a quotient -/
theorem d_float_neg (w : World) (neg : Bool) (s t : ByteArray) (ht : t = ⟨(Lib.trimLeftB s.data.toList 48).toArray⟩) (e : Int) (h0 : t ≠ ⟨#[]⟩) (hd : Num.digs t.data.toList = true) (hl : t.data.toList.length ≤ 400) (he0 : e < 0) (he : -900 ≤ e) (k : Nat) (hk : k = Num.bitsN (10 ^ (-e).toNat) + 70) :
  Calls Tryz.prog 31 #[.bool neg, .string s, .int .i64 e] w fun x w' => x = .returned (.int .u64 ((sg neg (mkN (Num.decL 0 t.data.toList * 2 ^ k / 10 ^ (-e).toNat * 2 ^ 1 + (if Num.decL 0 t.data.toList * 2 ^ k % 10 ^ (-e).toNat = 0 then 0 else 1)) (-(k : Int) - 1)) : Nat) : Int)) ∧ Below w.heap.size w w' := by
 have HT : Aside0 (∀ w, Calls Tryz.prog 69 #[.string s, .string ⟨#[48]⟩] w fun x w' => x = .returned (.string t) ∧ w' = w) := ⟨fun w => by rw [ht]; exact Tryz.strings_TrimLeft_one s 48 (by decide) w⟩
 obtain ⟨A, hA⟩ : ∃ A, A = 1601 := ⟨_, rfl⟩
 have hm := dec_lt (A := A) hd hl (by omega)
 have c2 : ¬ t.toList = [] := fun h => h0 (by
  rw [Lib.toList_data] at h
  apply ByteArray.ext
  exact Array.toList_inj.1 h)
 have hne : t.data.toList ≠ [] := by rw [← Lib.toList_data]; exact c2
 obtain ⟨ee, hee⟩ : ∃ z : Int, -e = z := ⟨_, rfl⟩
 rw [hee] at hk ⊢
 have hten := ten_lt ee.toNat
 have hpos : 0 < 10 ^ ee.toNat := Nat.pow_pos (by decide)
 obtain ⟨m, hmm⟩ : ∃ m, Num.decL 0 t.data.toList = m := ⟨_, rfl⟩
 obtain ⟨p, hpp⟩ : ∃ p, 10 ^ ee.toNat = p := ⟨_, rfl⟩
 have HTen := Aside0.mk (fun w => d_ten w ee (by omega))
 have fm : Fit (Num.decL 0 t.data.toList) := fit_lt hm (by omega)
 have HP := Aside0.mk (fun w => n_Parse (w := w) t hd hne (by omega) fm)
 rw [hmm] at hm fm HP ⊢
 rw [hpp] at hten HTen hk hpos ⊢
 obtain ⟨B, hBB⟩ : ∃ B, B = 3601 := ⟨_, rfl⟩
 have hten2 : p < 2 ^ B := Nat.lt_of_lt_of_le hten (Nat.pow_le_pow_right (by decide) (by omega))
 have fp : Fit p := fit_lt hten2 (by omega)
 have hbp := bits_lt hten2
 have hk2 : k ≤ 3671 := by omega
 obtain ⟨C, hC⟩ : ∃ C, C = 5272 := ⟨_, rfl⟩
 have hsh : m * 2 ^ k < 2 ^ C := by
  have h1 : m * 2 ^ k < 2 ^ A * 2 ^ k := Nat.mul_lt_mul_of_pos_right hm (Nat.two_pow_pos k)
  rw [← Nat.pow_add] at h1
  exact Nat.lt_of_lt_of_le h1 (Nat.pow_le_pow_right (by decide) (by omega))
 have fs : Fit (m * 2 ^ k) := fit_lt hsh (by omega)
 have HBits := Aside0.mk (fun (w : World) (v : Value) (h : Nm w v p) => n_Bits h fp)
 have HS1 := Aside0.mk (fun (w : World) (v : Value) (h : Nm w v m) => d_shifted w h fm k (by omega) fs)
 have HD := Aside0.mk (fun (w : World) (v u : Value) (h : Nm w v (m * 2 ^ k)) (g : Nm w u p) => n_Divide h g fs fp (Nat.ne_of_gt hpos))
 have hqs : m * 2 ^ k / p < 2 ^ C := Nat.lt_of_le_of_lt (Nat.div_le_self _ _) hsh
 obtain ⟨q, hqq⟩ : ∃ q, m * 2 ^ k / p = q := ⟨_, rfl⟩
 obtain ⟨rem, hrem⟩ : ∃ q, m * 2 ^ k % p = q := ⟨_, rfl⟩
 rw [hqq] at HD hqs ⊢
 rw [hrem] at HD ⊢
 have hqt : q * 2 ^ 1 + 1 < 2 ^ (C + 1) := by rw [Nat.pow_add]; omega
 have fq2 : Fit (q * 2 ^ 1) := fit_lt (Nat.lt_of_succ_lt hqt) (by omega)
 have HS2 : Aside0 (∀ w v, Nm w v q → Calls Tryz.prog 76 #[v, .int .i64 1] w fun e w' => ∃ r, e = .returned r ∧ Nm w' r (q * 2 ^ 1) ∧ Below w.heap.size w w') := ⟨fun w v h => d_shifted w h (fit_lt hqs (by omega)) 1 (by omega) fq2⟩
 have HA := Aside0.mk (fun (w : World) (v u : Value) (h : Nm w v (q * 2 ^ 1)) (g : Nm w u 1) => n_Add h g fq2 (fit_lt (b := 1) (by decide) (by omega)))
 have HB := Aside0.mk (Below.refl w.heap.size w)
 obtain ⟨b, hbn⟩ : ∃ b : Int, ((Num.bitsN p : Nat) : Int) = b := ⟨_, rfl⟩
 rw [hbn] at HBits
 obtain ⟨kk, hkk⟩ : ∃ z : Int, (k : Int) = z := ⟨_, rfl⟩
 have w1 : IntKind.i64.wrap (-e) = ee := by rw [hee, i64w_id (by omega) (by omega)]
 have w2 : IntKind.i64.wrap (b + 70) = kk := by rw [i64w_id (by omega) (by omega)]; omega
 obtain ⟨nk, hnk⟩ : ∃ z : Int, -kk = z := ⟨_, rfl⟩
 have w3 : IntKind.i64.wrap (-kk) = nk := by rw [hnk, i64w_id (by omega) (by omega)]
 obtain ⟨nk1, hnk1⟩ : ∃ z : Int, nk - 1 = z := ⟨_, rfl⟩
 have w4 : IntKind.i64.wrap (nk - 1) = nk1 := by rw [i64w_id (by omega) (by omega)]; exact hnk1
 rw [hkk] at HS1
 have hb1 := Nat.le_trans (bits_lt hqt) (show C + 1 ≤ 5273 by omega)
 have hb0 := Nat.le_trans (bits_lt (Nat.lt_of_succ_lt hqt)) (show C + 1 ≤ 5273 by omega)
 have HMk := fun (x : Nat) (hx : Num.bitsN x ≤ 5273) (w : World) (v : Value) (hv : Nm w v x) => s_Make w neg x hv (by omega) nk1 (by omega) (by omega) (by omega)
 rw [show -(k : Int) - 1 = nk1 by omega]
 obtain ⟨L, hL⟩ : ∃ z, (Num.wordsN rem).length = z := ⟨_, rfl⟩
 have c3 : t.toList.isEmpty = false := by
  cases h : t.toList with
  | nil => exact absurd h c2
  | cons a b => rfl
 have c4 : decide (e < -900) = false := decide_eq_false (by omega)
 have c5 : decide (400 < e) = false := decide_eq_false (by omega)
 have c6 : decide (0 ≤ e) = false := decide_eq_false (by omega)
 by_cases hr0 : rem = 0
 ·have hL0 : L = 0 := by rw [← hL, hr0, Num.wordsN_zero]; rfl
  subst hL0
  rw [if_pos hr0, Nat.add_zero]
  have HM := Aside0.mk (HMk _ hb0)
  obtain ⟨res, hres⟩ : ∃ z : Int, ((sg neg (mkN (q * 2 ^ 1) nk1) : Nat) : Int) = z := ⟨_, rfl⟩
  rw [hres] at HM ⊢
  have u1 : wrap64 (-e) = ee := (i64_w _).symm.trans w1
  have u2 : wrap64 (b + 70) = kk := (i64_w _).symm.trans w2
  have u3 : wrap64 (-kk) = nk := (i64_w _).symm.trans w3
  have u4 : wrap64 (nk - 1) = nk1 := (i64_w _).symm.trans w4
  clear hee HMk ht h0 hm hten hpos hmm hpp fm hten2 fp hbp hk2 hsh fs hqs hqq hrem hqt fq2 hbn hkk hnk hnk1 hb1 hb0 hr0 hres hd hl hne he0 he hk hA hBB hC A B C
  go_enter Tryz.func31, Tryz.ntmps31
  go_wp2_with (first | (go_at_call 69; (with_reducible refine (HT.out _).mono ?_); rintro e w' ⟨rfl, rfl⟩) | (go_at_call 72; (with_reducible refine (HP.out _).mono ?_); rintro e w' ⟨r1, rfl, hr, hb⟩; have n0_ := Aside0.mk (below_step HB.out hb); have hv1 := Aside0.mk hr; clear HB hb hr; have HB := n0_; clear n0_) | (go_at_call 74; (with_reducible refine (HTen.out _).mono ?_); rintro e w' ⟨r2, rfl, hr, hb⟩; have n0_ := Aside0.mk (below_step HB.out hb); have hv2 := Aside0.mk hr; have n1_ := Aside0.mk (hv1.out.below hb); clear HB hb hr hv1; have HB := n0_; have hv1 := n1_; clear n0_ n1_) | (go_at_call 38; (with_reducible refine (HBits.out _ _ hv2.out).mono ?_); rintro e w' ⟨rfl, hb⟩; have n0_ := Aside0.mk (below_step HB.out hb); have n1_ := Aside0.mk (hv1.out.below hb); have n2_ := Aside0.mk (hv2.out.below hb); clear HB hb hv1 hv2; have HB := n0_; have hv1 := n1_; have hv2 := n2_; clear n0_ n1_ n2_) | (go_at_call 76; (with_reducible refine (HS1.out _ _ hv1.out).mono ?_); rintro e w' ⟨r3, rfl, hr, hb⟩; have n0_ := Aside0.mk (below_step HB.out hb); have hv3 := Aside0.mk hr; have n1_ := Aside0.mk (hv2.out.below hb); clear HB hb hr hv2; have HB := n0_; have hv2 := n1_; clear n0_ n1_) | (go_at_call 75; (with_reducible refine (HD.out _ _ _ hv3.out hv2.out).mono ?_); rintro e w' ⟨rq, rr, rfl, hr, hr2, hb⟩; have n0_ := Aside0.mk (below_step HB.out hb); have hq := Aside0.mk hr; obtain ⟨Ar, cr, har, -, -, -⟩ := hr2.open; rw [hL] at har; subst har; clear HB hb hr hr2; have HB := n0_; clear n0_) | (go_at_call 76; (with_reducible refine (HS2.out _ _ hq.out).mono ?_); rintro e w' ⟨r4, rfl, hr, hb⟩; have n0_ := Aside0.mk (below_step HB.out hb); have hq2 := Aside0.mk hr; clear HB hb hr; have HB := n0_; clear n0_) | (go_at_call 71; (with_reducible refine (HM.out _ _ hq2.out).mono ?_); rintro e w' ⟨rfl, hb⟩; have n0_ := Aside0.mk (below_step HB.out hb); clear HB hb; have HB := n0_; clear n0_))
  go_ret
  exact ⟨rfl, by repeat (first | exact HB.out | apply pw_below_drewN)⟩
 ·have hL0 : (0 : Int) < (L : Int) := by
   rw [← hL]
   rcases Nat.eq_zero_or_pos (Num.wordsN rem).length with z | z
   ·exfalso
    apply hr0
    rw [← Num.wordsN_val rem, List.eq_nil_of_length_eq_zero z]
    rfl
   ·omega
  have c7 := decide_eq_true hL0
  rw [if_neg hr0]
  have HM := Aside0.mk (HMk _ hb1)
  obtain ⟨res, hres⟩ : ∃ z : Int, ((sg neg (mkN (q * 2 ^ 1 + 1) nk1) : Nat) : Int) = z := ⟨_, rfl⟩
  rw [hres] at HM ⊢
  have u1 : wrap64 (-e) = ee := (i64_w _).symm.trans w1
  have u2 : wrap64 (b + 70) = kk := (i64_w _).symm.trans w2
  have u3 : wrap64 (-kk) = nk := (i64_w _).symm.trans w3
  have u4 : wrap64 (nk - 1) = nk1 := (i64_w _).symm.trans w4
  clear hee HMk ht h0 hm hten hpos hmm hpp fm hten2 fp hbp hk2 hsh fs hqs hqq hrem hqt fq2 hbn hkk hnk hnk1 hb1 hb0 hr0 hres hd hl hne he0 he hk hA hBB hC A B C
  go_enter Tryz.func31, Tryz.ntmps31
  go_wp2_with (first | (go_at_call 69; (with_reducible refine (HT.out _).mono ?_); rintro e w' ⟨rfl, rfl⟩) | (go_at_call 72; (with_reducible refine (HP.out _).mono ?_); rintro e w' ⟨r1, rfl, hr, hb⟩; have n0_ := Aside0.mk (below_step HB.out hb); have hv1 := Aside0.mk hr; clear HB hb hr; have HB := n0_; clear n0_) | (go_at_call 74; (with_reducible refine (HTen.out _).mono ?_); rintro e w' ⟨r2, rfl, hr, hb⟩; have n0_ := Aside0.mk (below_step HB.out hb); have hv2 := Aside0.mk hr; have n1_ := Aside0.mk (hv1.out.below hb); clear HB hb hr hv1; have HB := n0_; have hv1 := n1_; clear n0_ n1_) | (go_at_call 38; (with_reducible refine (HBits.out _ _ hv2.out).mono ?_); rintro e w' ⟨rfl, hb⟩; have n0_ := Aside0.mk (below_step HB.out hb); have n1_ := Aside0.mk (hv1.out.below hb); have n2_ := Aside0.mk (hv2.out.below hb); clear HB hb hv1 hv2; have HB := n0_; have hv1 := n1_; have hv2 := n2_; clear n0_ n1_ n2_) | (go_at_call 76; (with_reducible refine (HS1.out _ _ hv1.out).mono ?_); rintro e w' ⟨r3, rfl, hr, hb⟩; have n0_ := Aside0.mk (below_step HB.out hb); have hv3 := Aside0.mk hr; have n1_ := Aside0.mk (hv2.out.below hb); clear HB hb hr hv2; have HB := n0_; have hv2 := n1_; clear n0_ n1_) | (go_at_call 75; (with_reducible refine (HD.out _ _ _ hv3.out hv2.out).mono ?_); rintro e w' ⟨rq, rr, rfl, hr, hr2, hb⟩; have n0_ := Aside0.mk (below_step HB.out hb); have hq := Aside0.mk hr; obtain ⟨Ar, cr, har, -, -, -⟩ := hr2.open; rw [hL] at har; subst har; clear HB hb hr hr2; have HB := n0_; clear n0_) | (go_at_call 76; (with_reducible refine (HS2.out _ _ hq.out).mono ?_); rintro e w' ⟨r4, rfl, hr, hb⟩; have n0_ := Aside0.mk (below_step HB.out hb); have hq2 := Aside0.mk hr; clear HB hb hr; have HB := n0_; clear n0_) | ((with_reducible refine gate_dst (N := 65) rfl ?_); refine Kd.R_lit (Kd.int .u32) _ 35 ?hg (N := 65) ?hd (xs := ([1] : List Int)) (inner := [.int .u32 1]) (ok := fun _ => True) (okp := fun _ => True) ?hr ?hp (fun _ hk => hk) trivial (Below.refl _ _) (Nat.le_refl _) (by simp) ?_; (case hd => rfl); (case hg => rfl); (case hr => first | (go_simp; done) | (go_simp; rfl)); (case hp => exact (Reps.one (show Kd.M (Kd.int .u32) _ _ _ 1 [.int .u32 1] from rfl) (Reps.none _ _))); intro v1 w1 ho hb hg_ hnew_; clear hg_ hnew_; have n0_ := Aside0.mk (show Nm w1 v1 1 from Nm.of_R (by rw [words_one]; exact ho)); have n1_ := Aside0.mk (below_step HB.out hb); have n2_ := Aside0.mk (hq2.out.below hb); clear ho hb HB hq2; have hv := n0_; have HB := n1_; have hq2 := n2_; clear n0_ n1_ n2_) | (go_at_call 77; (with_reducible refine (HA.out _ _ _ hq2.out hv.out).mono ?_); rintro e w' ⟨r5, rfl, hr, hb⟩; have n0_ := Aside0.mk (below_step HB.out hb); have hQ := Aside0.mk hr; clear HB hb hr; have HB := n0_; clear n0_) | (go_at_call 71; (with_reducible refine (HM.out _ _ hQ.out).mono ?_); rintro e w' ⟨rfl, hb⟩; have n0_ := Aside0.mk (below_step HB.out hb); clear HB hb; have HB := n0_; clear n0_))
  go_ret
  exact ⟨rfl, by repeat (first | exact HB.out | apply pw_below_drewN)⟩
end Go.Proofs.YtdoeigngpemcgaaGreatDoor.Dec
namespace Go.Flt
/-- m times 2^e against 10^k -/
def lhs (m : Nat) (e k : Int) : Nat := m * 10 ^ (-k).toNat * 2 ^ e.toNat
def rhs (e k : Int) : Nat := 10 ^ k.toNat * 2 ^ (-e).toNat
def rch (m : Nat) (e k : Int) : Bool := decide (rhs e k ≤ lhs m e k)
end Go.Flt
namespace Go.Proofs.YtdoeigngpemcgaaGreatDoor.Dec
open Go.RowKit Go.Flt Go.Proofs.YtdoeigngpemcgaaGreatDoor.Pure Go.Proofs.YtdoeigngpemcgaaGreatDoorW.PrintWords Go.Proofs.YtdoeigngpemcgaaGreatDoorW.PrintLast Go.Proofs.YtdoeigngpemcgaaGreatDoorW.PrintMore
attribute [local go_sem] max2_int min2_int max_two min_two max_three min_three max_four min_four
set_option linter.unusedVariables false
set_option linter.unusedSimpArgs false
theorem mul_lt_pow {a b i j : Nat} (h : a < 2 ^ i) (k : b < 2 ^ j) : a * b < 2 ^ (i + j) := by
 rw [Nat.pow_add]
 exact Nat.mul_lt_mul'' h k
theorem two_lt (k : Nat) : 2 ^ k < 2 ^ (k + 1) := Nat.pow_lt_pow_right (by decide) (by omega)
set_option maxHeartbeats 8000000 in
set_option maxRecDepth 100000 in
theorem d_reaches (w : World) {v : Value} {m : Nat} (hv : Nm w v m) (hm : m < 2 ^ 53) (e k : Int) (he : -1074 ≤ e) (he2 : e ≤ 971) (hk : -400 ≤ k) (hk2 : k ≤ 400) :
  Calls Tryz.prog 39 #[v, .int .i64 e, .int .i64 k] w fun x w' => x = .returned (.bool (rch m e k)) ∧ Below w.heap.size w w' := by
 obtain ⟨nk, hnk⟩ : ∃ z, -k = z := ⟨_, rfl⟩
 obtain ⟨ne, hne⟩ : ∃ z, -e = z := ⟨_, rfl⟩
 have T1 := Aside0.mk (fun w => d_ten w nk (by omega))
 have T2 := Aside0.mk (fun w => d_ten w k (by omega))
 have b1 := ten_lt nk.toNat
 have b2 := ten_lt k.toNat
 have c1 := two_lt e.toNat
 have c2 := two_lt ne.toNat
 have fm : Fit m := fit_lt hm (by omega)
 have d1 := mul_lt_pow hm b1
 have d2 := mul_lt_pow d1 c1
 have d3 := mul_lt_pow b2 c2
 have hL : m * 10 ^ nk.toNat * 2 ^ e.toNat = lhs m e k := by unfold lhs; rw [hnk]
 have hR : 10 ^ k.toNat * 2 ^ ne.toNat = rhs e k := by unfold rhs; rw [hne]
 have X := Aside0.mk (fun (w : World) (v u : Value) (h : Nm w v m) (g : Nm w u (10 ^ nk.toNat)) => d_times w h g fm (fit_lt b1 (by omega)) (fit_lt d1 (by omega)))
 have S1 := Aside0.mk (fun (w : World) (v : Value) (h : Nm w v (m * 10 ^ nk.toNat)) => d_shifted w h (fit_lt d1 (by omega)) e.toNat (by omega) (fit_lt d2 (by omega)))
 have S2 := Aside0.mk (fun (w : World) (v : Value) (h : Nm w v (10 ^ k.toNat)) => d_shifted w h (fit_lt b2 (by omega)) ne.toNat (by omega) (fit_lt d3 (by omega)))
 have CC := Aside0.mk (fun (w : World) (v u : Value) (h : Nm w v (m * 10 ^ nk.toNat * 2 ^ e.toNat)) (g : Nm w u (10 ^ k.toNat * 2 ^ ne.toNat)) => n_Compare h g (fit_lt d2 (by omega)) (fit_lt d3 (by omega)))
 obtain ⟨me, hme⟩ : ∃ z : Int, max e 0 = z := ⟨_, rfl⟩
 obtain ⟨mn, hmn⟩ : ∃ z : Int, max ne 0 = z := ⟨_, rfl⟩
 have hme' : ((e.toNat : Nat) : Int) = me := by omega
 have hmn' : ((ne.toNat : Nat) : Int) = mn := by omega
 have hme2 : (if e < 0 then 0 else e) = me := by rw [← hme]; split <;> omega
 have hmn2 : (if ne < 0 then 0 else ne) = mn := by rw [← hmn]; split <;> omega
 rw [hme'] at S1
 rw [hmn'] at S2
 obtain ⟨p1, hp1⟩ : ∃ z, 10 ^ nk.toNat = z := ⟨_, rfl⟩
 obtain ⟨p2, hp2⟩ : ∃ z, 10 ^ k.toNat = z := ⟨_, rfl⟩
 rw [hL, hR] at CC
 rw [hL] at S1
 rw [hR] at S2
 rw [hp1] at T1 X S1
 rw [hp2] at T2 S2
 obtain ⟨L, hLL⟩ : ∃ z, lhs m e k = z := ⟨_, rfl⟩
 obtain ⟨R, hRR⟩ : ∃ z, rhs e k = z := ⟨_, rfl⟩
 have hres : decide (0 ≤ Num.cmpN L R) = rch m e k := by
  unfold rch Num.cmpN
  rw [hLL, hRR, decide_eq_decide]
  split
  ·omega
  ·split <;> omega
 rw [hLL, hRR] at CC
 rw [hLL] at S1
 rw [hRR] at S2
 obtain ⟨res, hrr⟩ : ∃ z, rch m e k = z := ⟨_, rfl⟩
 rw [hrr] at hres ⊢
 obtain ⟨cc, hcc⟩ : ∃ z, Num.cmpN L R = z := ⟨_, rfl⟩
 rw [hcc] at hres CC
 obtain ⟨q1, hq1⟩ : ∃ z, m * p1 = z := ⟨_, rfl⟩
 rw [hq1] at X S1
 have w1 : wrap64 (-k) = nk := by rw [hnk, i64_id (by omega) (by omega)]
 have w2 : IntKind.i64.wrap (-k) = nk := (i64_w _).trans w1
 have w3 : wrap64 (-e) = ne := by rw [hne, i64_id (by omega) (by omega)]
 have w4 : IntKind.i64.wrap (-e) = ne := (i64_w _).trans w3
 have HB := Aside0.mk (Below.refl w.heap.size w)
 have hv0 := Aside0.mk hv
 clear hv hm he he2 hk hk2 hnk hne b1 b2 c1 c2 fm d1 d2 d3 hL hR hme' hmn' hp1 hp2 hLL hRR hrr hcc hq1
 go_enter Tryz.func39, Tryz.ntmps39
 go_wp2_with (first
  | (go_at_call 74; (with_reducible refine (T1.out _).mono ?_); rintro e w' ⟨r1, rfl, hr, hb⟩; have n0_ := Aside0.mk (below_step HB.out hb); have hv1 := Aside0.mk hr; have n1_ := Aside0.mk (hv0.out.below hb); clear HB hb hr hv0; have HB := n0_; have hv0 := n1_; clear n0_ n1_)
  | (go_at_call 73; (with_reducible refine (X.out _ _ _ hv0.out hv1.out).mono ?_); rintro e w' ⟨r2, rfl, hr, hb⟩; have n0_ := Aside0.mk (below_step HB.out hb); have hv2 := Aside0.mk hr; clear HB hb hr; have HB := n0_; clear n0_)
  | (go_at_call 76; (with_reducible refine (S1.out _ _ hv2.out).mono ?_); rintro e w' ⟨r3, rfl, hr, hb⟩; have n0_ := Aside0.mk (below_step HB.out hb); have hv3 := Aside0.mk hr; clear HB hb hr; have HB := n0_; clear n0_)
  | (go_at_call 74; (with_reducible refine (T2.out _).mono ?_); rintro e w' ⟨r4, rfl, hr, hb⟩; have n0_ := Aside0.mk (below_step HB.out hb); have hv4 := Aside0.mk hr; have n1_ := Aside0.mk (hv3.out.below hb); clear HB hb hr hv3; have HB := n0_; have hv3 := n1_; clear n0_ n1_)
  | (go_at_call 76; (with_reducible refine (S2.out _ _ hv4.out).mono ?_); rintro e w' ⟨r5, rfl, hr, hb⟩; have n0_ := Aside0.mk (below_step HB.out hb); have hv5 := Aside0.mk hr; have n1_ := Aside0.mk (hv3.out.below hb); clear HB hb hr hv3; have HB := n0_; have hv3 := n1_; clear n0_ n1_)
  | (go_at_call 94; (with_reducible refine (CC.out _ _ _ hv3.out hv5.out).mono ?_); rintro e w' ⟨rfl, hb⟩; have n0_ := Aside0.mk (below_step HB.out hb); clear HB hb; have HB := n0_; clear n0_))
 go_ret
 exact ⟨by first | rfl | rw [hres], HB.out⟩
end Go.Proofs.YtdoeigngpemcgaaGreatDoor.Dec
namespace Go.Flt
/-- the integer nearest to m times 2^e by 10^k, of two the even one -/
def nearN (m : Nat) (e k : Int) : Nat :=
 if rhs e k < 2 * (lhs m e k % rhs e k) ∨ (2 * (lhs m e k % rhs e k) = rhs e k ∧ lhs m e k / rhs e k % 2 = 1) then lhs m e k / rhs e k + 1 else lhs m e k / rhs e k
end Go.Flt
namespace Go.Proofs.YtdoeigngpemcgaaGreatDoor.Dec
open Go.RowKit Go.Flt Go.Proofs.YtdoeigngpemcgaaGreatDoor.Pure Go.Proofs.YtdoeigngpemcgaaGreatDoorW.PrintWords Go.Proofs.YtdoeigngpemcgaaGreatDoorW.PrintLast Go.Proofs.YtdoeigngpemcgaaGreatDoorW.PrintMore
attribute [local go_sem] max2_int min2_int max_two min_two max_three min_three max_four min_four
set_option linter.unusedVariables false
set_option linter.unusedSimpArgs false
theorem head_word {w : World} {A : Option Addr} {c n L : Nat} (h : Nm w (.slice A L c) n) (hL : (Num.wordsN n).length = L) (h0 : 0 < L) : ∃ ad, A = some ad ∧ w.cell? ad = some (.int .u32 (((n % 4294967296 : Nat) : Int))) := by
 obtain ⟨_, _, hC⟩ := Kd.V_reads' h
 obtain ⟨ad, rfl, _⟩ := Kd.at_int hC 0 (by omega) (by omega)
 have hz := Kd.foot_int hC 0 (by omega) (by omega)
 have hx : rd (Num.wordsN n) 0 = ((n % 4294967296 : Nat) : Int) := by
  rcases Nat.eq_zero_or_pos n with z | z
  ·subst z
   rw [Num.wordsN_zero] at hL
   exact absurd hL (by simp; omega)
  ·rw [Num.wordsN_pos (by omega)]
   rfl
 rw [hx] at hz
 rw [show ad.add (0 : Int).toNat = ad from rfl] at hz
 exact ⟨ad, rfl, hz⟩
theorem par_word (n : Nat) : bits .and .u32 (((n % 4294967296 : Nat) : Int)) 1 = ((n % 2 : Nat) : Int) := by
 rw [show (1 : Int) = ((1 : Nat) : Int) from rfl, u32_and_nat _ _ (Nat.mod_lt _ (by decide)) (by decide), Nat.and_one_is_mod]
 omega
set_option maxHeartbeats 16000000 in
set_option maxRecDepth 100000 in
theorem d_near (w : World) {v : Value} {m : Nat} (hv : Nm w v m) (hm : m < 2 ^ 53) (e n x : Int) (he : -1074 ≤ e) (he2 : e ≤ 971) (hk : -450 ≤ x - n) (hk2 : x - n ≤ 450) (hx1 : -1000 ≤ x) (hx2 : x ≤ 1000) :
  Calls Tryz.prog 40 #[v, .int .i64 e, .int .i64 n, .int .i64 x] w fun y w' => y = .returned (.string ⟨(Num.textN (nearN m e (x - n))).toArray⟩) ∧ Below w.heap.size w w' := by
 obtain ⟨k, hkk⟩ : ∃ z, x - n = z := ⟨_, rfl⟩
 have hnx : n - x = -k := by omega
 obtain ⟨nk, hnk⟩ : ∃ z, -k = z := ⟨_, rfl⟩
 rw [hnk] at hnx
 obtain ⟨ne, hne⟩ : ∃ z, -e = z := ⟨_, rfl⟩
 rw [hkk] at hk hk2 ⊢
 have T1 := Aside0.mk (fun w => d_ten w nk (by omega))
 have T2 := Aside0.mk (fun w => d_ten w k (by omega))
 have b1 := ten_lt nk.toNat
 have b2 := ten_lt k.toNat
 have c1 := two_lt e.toNat
 have c2 := two_lt ne.toNat
 have fm : Fit m := fit_lt hm (by omega)
 have d1 := mul_lt_pow hm b1
 have d2 := mul_lt_pow d1 c1
 have d3 := mul_lt_pow b2 c2
 have hL : m * 10 ^ nk.toNat * 2 ^ e.toNat = lhs m e k := by unfold lhs; rw [hnk]
 have hR : 10 ^ k.toNat * 2 ^ ne.toNat = rhs e k := by unfold rhs; rw [hne]
 have X := Aside0.mk (fun (w : World) (v u : Value) (h : Nm w v m) (g : Nm w u (10 ^ nk.toNat)) => d_times w h g fm (fit_lt b1 (by omega)) (fit_lt d1 (by omega)))
 have S1 := Aside0.mk (fun (w : World) (v : Value) (h : Nm w v (m * 10 ^ nk.toNat)) => d_shifted w h (fit_lt d1 (by omega)) e.toNat (by omega) (fit_lt d2 (by omega)))
 have S2 := Aside0.mk (fun (w : World) (v : Value) (h : Nm w v (10 ^ k.toNat)) => d_shifted w h (fit_lt b2 (by omega)) ne.toNat (by omega) (fit_lt d3 (by omega)))
 obtain ⟨me, hme⟩ : ∃ z : Int, max e 0 = z := ⟨_, rfl⟩
 obtain ⟨mn, hmn⟩ : ∃ z : Int, max ne 0 = z := ⟨_, rfl⟩
 have hme' : ((e.toNat : Nat) : Int) = me := by omega
 have hmn' : ((ne.toNat : Nat) : Int) = mn := by omega
 have hme2 : (if e < 0 then 0 else e) = me := by rw [← hme]; split <;> omega
 have hmn2 : (if ne < 0 then 0 else ne) = mn := by rw [← hmn]; split <;> omega
 rw [hme'] at S1
 rw [hmn'] at S2
 rw [hL] at d2 S1
 rw [hR] at d3 S2
 have hpos : 0 < rhs e k := Nat.mul_pos (Nat.pow_pos (by decide)) (Nat.two_pow_pos _)
 obtain ⟨p1, hp1⟩ : ∃ z, 10 ^ nk.toNat = z := ⟨_, rfl⟩
 obtain ⟨p2, hp2⟩ : ∃ z, 10 ^ k.toNat = z := ⟨_, rfl⟩
 rw [hp1] at T1 X S1
 rw [hp2] at T2 S2
 obtain ⟨L, hLL⟩ : ∃ z, lhs m e k = z := ⟨_, rfl⟩
 obtain ⟨R, hRR⟩ : ∃ z, rhs e k = z := ⟨_, rfl⟩
 have hN : nearN m e k = if R < 2 * (L % R) ∨ (2 * (L % R) = R ∧ L / R % 2 = 1) then L / R + 1 else L / R := by unfold nearN; rw [hLL, hRR]
 rw [hLL] at d2 S1
 rw [hRR] at d3 S2 hpos
 have D := Aside0.mk (fun (w : World) (v u : Value) (h : Nm w v L) (g : Nm w u R) => n_Divide h g (fit_lt d2 (by omega)) (fit_lt d3 (by omega)) (Nat.ne_of_gt hpos))
 obtain ⟨Q, hQ⟩ : ∃ z, L / R = z := ⟨_, rfl⟩
 obtain ⟨r, hr⟩ : ∃ z, L % R = z := ⟨_, rfl⟩
 have hrl : r < R := by rw [← hr]; exact Nat.mod_lt _ hpos
 have hql : Q ≤ L := by rw [← hQ]; exact Nat.div_le_self _ _
 rw [hQ, hr] at D hN
 have fq : Fit Q := fit_le (fit_lt d2 (by omega)) hql
 have fr : Fit r := fit_le (fit_lt d3 (by omega)) (by omega)
 have r2 : r * 2 ^ 1 < 2 ^ (4 * k.toNat + 1 + (ne.toNat + 1) + 1) := by rw [Nat.pow_succ _ (_ + _)]; omega
 have q1 : Q + 1 < 2 ^ (53 + (4 * nk.toNat + 1) + (e.toNat + 1) + 1) := by
  have := Nat.two_pow_pos (53 + (4 * nk.toNat + 1) + (e.toNat + 1))
  rw [Nat.pow_succ]; omega
 have fr2 : Fit (r * 2 ^ 1) := fit_lt r2 (by omega)
 have fR : Fit R := fit_lt d3 (by omega)
 have fq1 : Fit (Q + 1) := fit_lt q1 (by omega)
 have S3 : Aside0 (∀ w v, Nm w v r → Calls Tryz.prog 76 #[v, .int .i64 1] w fun e w' => ∃ z, e = .returned z ∧ Nm w' z (r * 2 ^ 1) ∧ Below w.heap.size w w') := ⟨fun w v h => d_shifted w h fr 1 (by omega) fr2⟩
 have CC := Aside0.mk (fun (w : World) (v u : Value) (h : Nm w v (r * 2 ^ 1)) (g : Nm w u R) => n_Compare h g fr2 fR)
 have AA := Aside0.mk (fun (w : World) (v u : Value) (h : Nm w v Q) (g : Nm w u 1) => n_Add h g fq (fit_lt (b := 1) (by decide) (by omega)))
 obtain ⟨cc, hcc⟩ : ∃ z, Num.cmpN (r * 2 ^ 1) R = z := ⟨_, rfl⟩
 have hcc3 : (R < 2 * r ∧ cc = 1) ∨ (2 * r = R ∧ cc = 0) ∨ (2 * r < R ∧ cc = -1) := by
  rw [← hcc]
  unfold Num.cmpN
  rw [Nat.pow_one]
  split
  ·omega
  ·split <;> omega
 rw [hcc] at CC
 obtain ⟨m1, hm1⟩ : ∃ z, m * p1 = z := ⟨_, rfl⟩
 rw [hm1] at X S1
 have w1 : wrap64 (n - x) = nk := by rw [hnx, i64_id (by omega) (by omega)]
 have w2 : IntKind.i64.wrap (n - x) = nk := (i64_w _).trans w1
 have w5 : wrap64 (x - n) = k := by rw [hkk, i64_id (by omega) (by omega)]
 have w6 : IntKind.i64.wrap (x - n) = k := (i64_w _).trans w5
 have w3 : wrap64 (-e) = ne := by rw [hne, i64_id (by omega) (by omega)]
 have w4 : IntKind.i64.wrap (-e) = ne := (i64_w _).trans w3
 have HB := Aside0.mk (Below.refl w.heap.size w)
 have hv0 := Aside0.mk hv
 obtain ⟨LQ, hLQ⟩ : ∃ z, (Num.wordsN Q).length = z := ⟨_, rfl⟩
 have HQL : Aside0 ((Num.wordsN Q).length = LQ) := ⟨hLQ⟩
 have TX0 := Aside0.mk (fun (w : World) (v : Value) (h : Nm w v Q) => n_Text h fq)
 have TX1 := Aside0.mk (fun (w : World) (v : Value) (h : Nm w v (Q + 1)) => n_Text h fq1)
 have hup : (R < 2 * r ∨ (2 * r = R ∧ Q % 2 = 1)) → nearN m e k = Q + 1 := fun h => by rw [hN, if_pos h]
 have hno : ¬ (R < 2 * r ∨ (2 * r = R ∧ Q % 2 = 1)) → nearN m e k = Q := fun h => by rw [hN, if_neg h]
 clear hv hm he he2 hk hk2 hnk hne b1 b2 c1 c2 fm d1 d2 d3 hL hR hme' hmn' hp1 hp2 hLL hRR hcc hm1 hN hQ hr hql fq fr r2 q1 fr2 fR fq1 hpos hrl hkk hnx hx1 hx2
 go_enter Tryz.func40, Tryz.ntmps40
 go_upto_region 4 with (first | (go_at_call 74; (with_reducible refine (T1.out _).mono ?_); rintro e w' ⟨r1, rfl, hr, hb⟩; have n0_ := Aside0.mk (below_step HB.out hb); have hv1 := Aside0.mk hr; have k0_ := Aside0.mk (hv0.out.below hb); clear HB hb hr hv0; have HB := n0_; have hv0 := k0_; clear n0_ k0_) | (go_at_call 73; (with_reducible refine (X.out _ _ _ hv0.out hv1.out).mono ?_); rintro e w' ⟨r2, rfl, hr, hb⟩; have n0_ := Aside0.mk (below_step HB.out hb); have hv2 := Aside0.mk hr; clear HB hb hr ; have HB := n0_; clear n0_) | (go_at_call 76; (with_reducible refine (S1.out _ _ hv2.out).mono ?_); rintro e w' ⟨r3, rfl, hr, hb⟩; have n0_ := Aside0.mk (below_step HB.out hb); have hv3 := Aside0.mk hr; clear HB hb hr ; have HB := n0_; clear n0_) | (go_at_call 74; (with_reducible refine (T2.out _).mono ?_); rintro e w' ⟨r4, rfl, hr, hb⟩; have n0_ := Aside0.mk (below_step HB.out hb); have hv4 := Aside0.mk hr; have k0_ := Aside0.mk (hv3.out.below hb); clear HB hb hr hv3; have HB := n0_; have hv3 := k0_; clear n0_ k0_) | (go_at_call 76; (with_reducible refine (S2.out _ _ hv4.out).mono ?_); rintro e w' ⟨r5, rfl, hr, hb⟩; have n0_ := Aside0.mk (below_step HB.out hb); have hv5 := Aside0.mk hr; have k0_ := Aside0.mk (hv3.out.below hb); clear HB hb hr hv3; have HB := n0_; have hv3 := k0_; clear n0_ k0_) | (go_at_call 75; (with_reducible refine (D.out _ _ _ hv3.out hv5.out).mono ?_); rintro e w' ⟨rq, rr, rfl, hr, hr2, hb⟩; have n0_ := Aside0.mk (below_step HB.out hb); have hrr := Aside0.mk hr2; obtain ⟨Aq, cq, haq, -, -, -⟩ := hr.open; rw [HQL.out] at haq; subst haq; have hq := Aside0.mk hr; clear hr2; have k0_ := Aside0.mk (hv5.out.below hb); clear HB hb hr hv5; have HB := n0_; have hv5 := k0_; clear n0_ k0_))
 by_cases hQ0 : Q = 0
 ·have hq2 : Q % 2 = 0 := by rw [hQ0]
  have : LQ = 0 := by rw [← hLQ, hQ0, Num.wordsN_zero]; rfl
  subst this
  clear hQ0 hLQ
  go_upto_region 6 with (first | (go_at_call 76; (with_reducible refine (S3.out _ _ hrr.out).mono ?_); rintro e w' ⟨r6, rfl, hr, hb⟩; have n0_ := Aside0.mk (below_step HB.out hb); have hv6 := Aside0.mk hr; have k0_ := Aside0.mk (hv5.out.below hb); have k1_ := Aside0.mk (hq.out.below hb); clear HB hb hr hv5 hq; have HB := n0_; have hv5 := k0_; have hq := k1_; clear n0_ k0_ k1_) | (go_at_call 94; (with_reducible refine (CC.out _ _ _ hv6.out hv5.out).mono ?_); rintro e w' ⟨rfl, hb⟩; have hr := 0; have n0_ := Aside0.mk (below_step HB.out hb); have k0_ := Aside0.mk (hq.out.below hb); clear HB hb hr hq; have HB := n0_; have hq := k0_; clear n0_ k0_))
  rcases hcc3 with ⟨hc1, hc2⟩ | ⟨hc1, hc2⟩ | ⟨hc1, hc2⟩
  ·have hb := Aside0.mk (hup (by omega))
   subst hc2
   clear hup hno hc1 hq2
   go_wp2_with (first | ((with_reducible refine gate_dst (N := 63) rfl ?_); refine Kd.R_lit (Kd.int .u32) _ 35 ?hg (N := 63) ?hd (xs := ([1] : List Int)) (inner := [.int .u32 1]) (ok := fun _ => True) (okp := fun _ => True) ?hr ?hp (fun _ hk => hk) trivial (Below.refl _ _) (Nat.le_refl _) (by simp) ?_; (case hd => rfl); (case hg => rfl); (case hr => first | (go_simp; done) | (go_simp; rfl)); (case hp => exact (Reps.one (show Kd.M (Kd.int .u32) _ _ _ 1 [.int .u32 1] from rfl) (Reps.none _ _))); intro v1 w1 ho hb hg_ hnew_; clear hg_ hnew_; have h1 := Aside0.mk (show Nm w1 v1 1 from Nm.of_R (by rw [words_one]; exact ho)); have n0_ := Aside0.mk (below_step HB.out hb); clear ho; have hr := 0; have k0_ := Aside0.mk (hq.out.below hb); clear HB hb hr hq; have HB := n0_; have hq := k0_; clear n0_ k0_) | (go_at_call 77; (with_reducible refine (AA.out _ _ _ hq.out h1.out).mono ?_); rintro e w' ⟨r7, rfl, hr, hb⟩; have n0_ := Aside0.mk (below_step HB.out hb); have hq1 := Aside0.mk hr; clear HB hb hr ; have HB := n0_; clear n0_) | (go_at_call 95; (with_reducible refine (TX1.out _ _ hq1.out).mono ?_); rintro e w' ⟨rfl, hb⟩; have hr := 0; have n0_ := Aside0.mk (below_step HB.out hb); clear HB hb hr ; have HB := n0_; clear n0_))
   go_ret
   exact ⟨by rw [hb.out]; rfl, HB.out⟩
  ·have hb := Aside0.mk (hno (by omega))
   subst hc2
   clear hup hno hc1 hq2
   go_wp2_with (first | (go_at_call 95; (with_reducible refine (TX0.out _ _ hq.out).mono ?_); rintro e w' ⟨rfl, hb⟩; have hr := 0; have n0_ := Aside0.mk (below_step HB.out hb); clear HB hb hr ; have HB := n0_; clear n0_))
   go_ret
   exact ⟨by rw [hb.out]; rfl, HB.out⟩
  ·have hb := Aside0.mk (hno (by omega))
   subst hc2
   clear hup hno hc1 hq2
   go_wp2_with (first | (go_at_call 95; (with_reducible refine (TX0.out _ _ hq.out).mono ?_); rintro e w' ⟨rfl, hb⟩; have hr := 0; have n0_ := Aside0.mk (below_step HB.out hb); clear HB hb hr ; have HB := n0_; clear n0_))
   go_ret
   exact ⟨by rw [hb.out]; rfl, HB.out⟩
 have hlen : 0 < LQ := by
  rw [← hLQ]
  rcases Nat.eq_zero_or_pos (Num.wordsN Q).length with z | z
  ·exfalso
   apply hQ0
   rw [← Num.wordsN_val Q, List.eq_nil_of_length_eq_zero z]
   rfl
  ·exact z
 have g1 := decide_eq_true (show (0 : Int) < (LQ : Int) by omega)
 have g2 : (0 : Int) < (LQ : Int) := by omega
 obtain ⟨ad, had, hz⟩ := head_word hq.out HQL.out hlen
 subst had
 obtain ⟨y, hy⟩ : ∃ z : Int, ((Q % 4294967296 : Nat) : Int) = z := ⟨_, rfl⟩
 have hpar := par_word Q
 rw [hy] at hpar hz
 clear hlen hLQ hQ0 hy
 by_cases hq2 : Q % 2 = 1
 ·rw [hq2] at hpar
  have hpar2 : bits .and .u32 y 1 = 1 := hpar
  clear hpar
  go_upto_region 6 with (first | (go_at_call 76; (with_reducible refine (S3.out _ _ hrr.out).mono ?_); rintro e w' ⟨r6, rfl, hr, hb⟩; have n0_ := Aside0.mk (below_step HB.out hb); have hv6 := Aside0.mk hr; have k0_ := Aside0.mk (hv5.out.below hb); have k1_ := Aside0.mk (hq.out.below hb); clear HB hb hr hv5 hq; have HB := n0_; have hv5 := k0_; have hq := k1_; clear n0_ k0_ k1_) | (go_at_call 94; (with_reducible refine (CC.out _ _ _ hv6.out hv5.out).mono ?_); rintro e w' ⟨rfl, hb⟩; have hr := 0; have n0_ := Aside0.mk (below_step HB.out hb); have k0_ := Aside0.mk (hq.out.below hb); clear HB hb hr hq; have HB := n0_; have hq := k0_; clear n0_ k0_))
  rcases hcc3 with ⟨hc1, hc2⟩ | ⟨hc1, hc2⟩ | ⟨hc1, hc2⟩
  ·have hb := Aside0.mk (hup (by omega))
   subst hc2
   clear hup hno hc1 hq2
   go_wp2_with (first | ((with_reducible refine gate_dst (N := 63) rfl ?_); refine Kd.R_lit (Kd.int .u32) _ 35 ?hg (N := 63) ?hd (xs := ([1] : List Int)) (inner := [.int .u32 1]) (ok := fun _ => True) (okp := fun _ => True) ?hr ?hp (fun _ hk => hk) trivial (Below.refl _ _) (Nat.le_refl _) (by simp) ?_; (case hd => rfl); (case hg => rfl); (case hr => first | (go_simp; done) | (go_simp; rfl)); (case hp => exact (Reps.one (show Kd.M (Kd.int .u32) _ _ _ 1 [.int .u32 1] from rfl) (Reps.none _ _))); intro v1 w1 ho hb hg_ hnew_; clear hg_ hnew_; have h1 := Aside0.mk (show Nm w1 v1 1 from Nm.of_R (by rw [words_one]; exact ho)); have n0_ := Aside0.mk (below_step HB.out hb); clear ho; have hr := 0; have k0_ := Aside0.mk (hq.out.below hb); clear HB hb hr hq; have HB := n0_; have hq := k0_; clear n0_ k0_) | (go_at_call 77; (with_reducible refine (AA.out _ _ _ hq.out h1.out).mono ?_); rintro e w' ⟨r7, rfl, hr, hb⟩; have n0_ := Aside0.mk (below_step HB.out hb); have hq1 := Aside0.mk hr; clear HB hb hr ; have HB := n0_; clear n0_) | (go_at_call 95; (with_reducible refine (TX1.out _ _ hq1.out).mono ?_); rintro e w' ⟨rfl, hb⟩; have hr := 0; have n0_ := Aside0.mk (below_step HB.out hb); clear HB hb hr ; have HB := n0_; clear n0_))
   go_ret
   exact ⟨by rw [hb.out]; rfl, HB.out⟩
  ·have hb := Aside0.mk (hup (by omega))
   subst hc2
   clear hup hno hc1 hq2
   go_wp2_with (first | ((with_reducible refine gate_dst (N := 63) rfl ?_); refine Kd.R_lit (Kd.int .u32) _ 35 ?hg (N := 63) ?hd (xs := ([1] : List Int)) (inner := [.int .u32 1]) (ok := fun _ => True) (okp := fun _ => True) ?hr ?hp (fun _ hk => hk) trivial (Below.refl _ _) (Nat.le_refl _) (by simp) ?_; (case hd => rfl); (case hg => rfl); (case hr => first | (go_simp; done) | (go_simp; rfl)); (case hp => exact (Reps.one (show Kd.M (Kd.int .u32) _ _ _ 1 [.int .u32 1] from rfl) (Reps.none _ _))); intro v1 w1 ho hb hg_ hnew_; clear hg_ hnew_; have h1 := Aside0.mk (show Nm w1 v1 1 from Nm.of_R (by rw [words_one]; exact ho)); have n0_ := Aside0.mk (below_step HB.out hb); clear ho; have hr := 0; have k0_ := Aside0.mk (hq.out.below hb); clear HB hb hr hq; have HB := n0_; have hq := k0_; clear n0_ k0_) | (go_at_call 77; (with_reducible refine (AA.out _ _ _ hq.out h1.out).mono ?_); rintro e w' ⟨r7, rfl, hr, hb⟩; have n0_ := Aside0.mk (below_step HB.out hb); have hq1 := Aside0.mk hr; clear HB hb hr ; have HB := n0_; clear n0_) | (go_at_call 95; (with_reducible refine (TX1.out _ _ hq1.out).mono ?_); rintro e w' ⟨rfl, hb⟩; have hr := 0; have n0_ := Aside0.mk (below_step HB.out hb); clear HB hb hr ; have HB := n0_; clear n0_))
   go_ret
   exact ⟨by rw [hb.out]; rfl, HB.out⟩
  ·have hb := Aside0.mk (hno (by omega))
   subst hc2
   clear hup hno hc1 hq2
   go_wp2_with (first | (go_at_call 95; (with_reducible refine (TX0.out _ _ hq.out).mono ?_); rintro e w' ⟨rfl, hb⟩; have hr := 0; have n0_ := Aside0.mk (below_step HB.out hb); clear HB hb hr ; have HB := n0_; clear n0_))
   go_ret
   exact ⟨by rw [hb.out]; rfl, HB.out⟩
 ·replace hq2 : Q % 2 = 0 := by omega
  rw [hq2] at hpar
  have hpar2 : bits .and .u32 y 1 = 0 := hpar
  clear hpar
  go_upto_region 6 with (first | (go_at_call 76; (with_reducible refine (S3.out _ _ hrr.out).mono ?_); rintro e w' ⟨r6, rfl, hr, hb⟩; have n0_ := Aside0.mk (below_step HB.out hb); have hv6 := Aside0.mk hr; have k0_ := Aside0.mk (hv5.out.below hb); have k1_ := Aside0.mk (hq.out.below hb); clear HB hb hr hv5 hq; have HB := n0_; have hv5 := k0_; have hq := k1_; clear n0_ k0_ k1_) | (go_at_call 94; (with_reducible refine (CC.out _ _ _ hv6.out hv5.out).mono ?_); rintro e w' ⟨rfl, hb⟩; have hr := 0; have n0_ := Aside0.mk (below_step HB.out hb); have k0_ := Aside0.mk (hq.out.below hb); clear HB hb hr hq; have HB := n0_; have hq := k0_; clear n0_ k0_))
  rcases hcc3 with ⟨hc1, hc2⟩ | ⟨hc1, hc2⟩ | ⟨hc1, hc2⟩
  ·have hb := Aside0.mk (hup (by omega))
   subst hc2
   clear hup hno hc1 hq2
   go_wp2_with (first | ((with_reducible refine gate_dst (N := 63) rfl ?_); refine Kd.R_lit (Kd.int .u32) _ 35 ?hg (N := 63) ?hd (xs := ([1] : List Int)) (inner := [.int .u32 1]) (ok := fun _ => True) (okp := fun _ => True) ?hr ?hp (fun _ hk => hk) trivial (Below.refl _ _) (Nat.le_refl _) (by simp) ?_; (case hd => rfl); (case hg => rfl); (case hr => first | (go_simp; done) | (go_simp; rfl)); (case hp => exact (Reps.one (show Kd.M (Kd.int .u32) _ _ _ 1 [.int .u32 1] from rfl) (Reps.none _ _))); intro v1 w1 ho hb hg_ hnew_; clear hg_ hnew_; have h1 := Aside0.mk (show Nm w1 v1 1 from Nm.of_R (by rw [words_one]; exact ho)); have n0_ := Aside0.mk (below_step HB.out hb); clear ho; have hr := 0; have k0_ := Aside0.mk (hq.out.below hb); clear HB hb hr hq; have HB := n0_; have hq := k0_; clear n0_ k0_) | (go_at_call 77; (with_reducible refine (AA.out _ _ _ hq.out h1.out).mono ?_); rintro e w' ⟨r7, rfl, hr, hb⟩; have n0_ := Aside0.mk (below_step HB.out hb); have hq1 := Aside0.mk hr; clear HB hb hr ; have HB := n0_; clear n0_) | (go_at_call 95; (with_reducible refine (TX1.out _ _ hq1.out).mono ?_); rintro e w' ⟨rfl, hb⟩; have hr := 0; have n0_ := Aside0.mk (below_step HB.out hb); clear HB hb hr ; have HB := n0_; clear n0_))
   go_ret
   exact ⟨by rw [hb.out]; rfl, HB.out⟩
  ·have hb := Aside0.mk (hno (by omega))
   subst hc2
   clear hup hno hc1 hq2
   go_wp2_with (first | (go_at_call 95; (with_reducible refine (TX0.out _ _ hq.out).mono ?_); rintro e w' ⟨rfl, hb⟩; have hr := 0; have n0_ := Aside0.mk (below_step HB.out hb); clear HB hb hr ; have HB := n0_; clear n0_))
   go_ret
   exact ⟨by rw [hb.out]; rfl, HB.out⟩
  ·have hb := Aside0.mk (hno (by omega))
   subst hc2
   clear hup hno hc1 hq2
   go_wp2_with (first | (go_at_call 95; (with_reducible refine (TX0.out _ _ hq.out).mono ?_); rintro e w' ⟨rfl, hb⟩; have hr := 0; have n0_ := Aside0.mk (below_step HB.out hb); clear HB hb hr ; have HB := n0_; clear n0_))
   go_ret
   exact ⟨by rw [hb.out]; rfl, HB.out⟩
end Go.Proofs.YtdoeigngpemcgaaGreatDoor.Dec
namespace Go.Flt
open Go.Num
theorem two_ten (k : Nat) : 2 ^ (3 * k) ≤ 10 ^ k := by
 rw [Nat.pow_mul]
 exact Nat.pow_le_pow_left (by decide) k
theorem bits_le_of {m b : Nat} (h : m < 2 ^ b) : bitsN m ≤ b := by
 rcases Nat.eq_zero_or_pos m with z | z
 ·subst z; rw [bitsN_zero]; omega
 ·rcases Nat.lt_or_ge b (bitsN m) with q | q
  ·exfalso
   have h1 := bitsN_le z
   have h3 : 2 ^ b ≤ 2 ^ (bitsN m - 1) := Nat.pow_le_pow_right (by decide) (by omega)
   omega
  ·exact q
theorem bits_gt_of {m b : Nat} (h : 2 ^ b ≤ m) : b < bitsN m := by
 rcases Nat.lt_or_ge b (bitsN m) with q | q
 ·exact q
 ·have h1 := bitsN_lt m
  have h3 : 2 ^ bitsN m ≤ 2 ^ b := Nat.pow_le_pow_right (by decide) q
  omega
theorem fl_small {p q t : Nat} (hq : 0 < q) (h : p * 2 ^ t ≤ q) (ht : 1100 ≤ t) : fl p q = 0 := by
 rcases Nat.eq_zero_or_pos p with z | hp
 ·subst z; exact fl_zero q
 obtain ⟨k, hk⟩ : ∃ k, k = bitsN q + 53 + t := ⟨_, rfl⟩
 rw [← fl_at hp hq k (by omega)]
 apply mkN_small
 have h1 : p * 2 ^ k ≤ q * 2 ^ (k - t) := by
  rw [show k = t + (k - t) by omega, Nat.pow_add, ← Nat.mul_assoc, show t + (k - t) - t = k - t by omega]
  exact Nat.mul_le_mul_right _ h
 have h2 : p * 2 ^ k / q ≤ 2 ^ (k - t) := by
  have := Nat.div_le_div_right (c := q) h1
  rw [Nat.mul_div_cancel_left _ hq] at this
  exact this
 have h3 : sq (p * 2 ^ k) q < 2 ^ (k - t + 2) := by
  have := Nat.two_pow_pos (k - t)
  rw [Nat.pow_add]
  unfold sq
  split <;> omega
 have := bits_le_of h3
 omega
theorem mkN_huge {v t : Nat} (h : 2 ^ t ≤ v) (ht : 1030 ≤ t) : mkN v 0 = 9218868437227405312 := by
 have h1 := bits_gt_of h
 have := Nat.two_pow_pos t
 apply mkN_big (by omega)
 unfold expo
 omega
/-- far below -/
theorem flt_low {m k : Nat} {e : Int} (he : e < 0) (hk : 400 ≤ k) (h : m * 10 ^ k ≤ 10 ^ (-e).toNat) : flt m e = 0 := by
 unfold flt
 split
 ·rfl
 ·rw [if_neg (by omega)]
  refine fl_small (t := 3 * k) (Nat.pow_pos (by decide)) (Nat.le_trans (Nat.mul_le_mul_left _ (two_ten k)) h) (by omega)
/-- far above -/
theorem flt_high {m k : Nat} {e : Int} (he : 0 ≤ e) (hk : 400 ≤ k) (h : 10 ^ k ≤ m * 10 ^ e.toNat) : flt m e = 9218868437227405312 := by
 have hp := Nat.two_pow_pos (3 * k)
 have h1 := Nat.le_trans (two_ten k) h
 unfold flt
 rw [if_neg (by rintro rfl; rw [Nat.zero_mul] at h1; omega), if_pos he, fl_one (by omega)]
 exact mkN_huge h1 (by omega)
theorem flt_nil (e : Int) : flt 0 e = 0 := by
 unfold flt
 rw [if_pos rfl]
end Go.Flt
namespace Go.Flt
open Go.Proofs.YtdoeigngpemcgaaGreatDoor
theorem rch_pred {m : Nat} {e k : Int} (h : rch m e k = true) : rch m e (k - 1) = true := by
 unfold rch at *
 rw [decide_eq_true_iff] at *
 unfold lhs rhs at *
 rcases Int.lt_or_le 0 k with c | c
 ·obtain ⟨j, hj⟩ : ∃ j, k.toNat = j + 1 := ⟨k.toNat - 1, by omega⟩
  rw [show (k - 1).toNat = j by omega, show (-(k - 1)).toNat = (-k).toNat by omega]
  rw [hj, Nat.pow_succ, Nat.mul_right_comm] at h
  have h0 : 10 ^ j * 2 ^ (-e).toNat * 1 ≤ 10 ^ j * 2 ^ (-e).toNat * 10 := Nat.mul_le_mul_left _ (by decide)
  omega
 ·rw [show (k - 1).toNat = 0 by omega, show (-(k - 1)).toNat = (-k).toNat + 1 by omega, Nat.pow_succ, ← Nat.mul_assoc, Nat.mul_right_comm _ 10]
  rw [show k.toNat = 0 by omega] at h
  have h0 : m * 10 ^ (-k).toNat * 2 ^ e.toNat * 1 ≤ m * 10 ^ (-k).toNat * 2 ^ e.toNat * 10 := Nat.mul_le_mul_left _ (by decide)
  omega
theorem rch_le {m : Nat} {e j k : Int} (h : rch m e k = true) (hj : j ≤ k) : rch m e j = true := by
 obtain ⟨n, hn⟩ : ∃ n : Nat, k = j + n := ⟨(k - j).toNat, by omega⟩
 subst hn
 clear hj
 induction n with
 | zero => simpa using h
 | succ n ih =>
  apply ih
  have := rch_pred h
  rw [show j + ((n + 1 : Nat) : Int) - 1 = j + (n : Int) by omega] at this
  exact this
/-- D is how many digits stand ahead of the point -/
def Dex (m : Nat) (e D : Int) : Prop := rch m e (D - 1) = true ∧ rch m e D = false
theorem Dex.lt {m : Nat} {e D x : Int} (h : Dex m e D) (k : rch m e x = true) : x < D := by
 rcases Int.lt_or_le x D with c | c
 ·exact c
 ·have := rch_le k c
  rw [h.2] at this
  cases this
theorem Dex.ge {m : Nat} {e D x : Int} (h : Dex m e D) (k : rch m e x = false) : D ≤ x := by
 rcases Int.lt_or_le x D with c | c
 ·have := rch_le h.1 (show x ≤ D - 1 by omega)
  rw [k] at this
  cases this
 ·exact c
theorem rch_low {m : Nat} {e : Int} (hm : 0 < m) (he : -1074 ≤ e) : rch m e (-336) = true := by
 unfold rch lhs rhs
 rw [decide_eq_true_iff, show (-336 : Int).toNat = 0 from rfl, Nat.pow_zero, Nat.one_mul, show (-(-336) : Int).toNat = 336 from rfl]
 obtain ⟨K, hK⟩ : ∃ K, K = 336 := ⟨_, rfl⟩
 obtain ⟨t, ht⟩ : ∃ t, t = 12 := ⟨_, rfl⟩
 rw [← hK]
 have h2 : 2 ^ (-e).toNat ≤ 10 ^ K := by
  refine Nat.le_trans (Nat.pow_le_pow_right (by decide) (show (-e).toNat ≤ 93 * t by omega)) ?_
  rw [Nat.pow_mul, show K = 28 * t by omega, Nat.pow_mul]
  exact Nat.pow_le_pow_left (by decide) t
 have h3 : 1 * 10 ^ K ≤ m * 10 ^ K := Nat.mul_le_mul_right _ hm
 have h4 : m * 10 ^ K * 1 ≤ m * 10 ^ K * 2 ^ e.toNat := Nat.mul_le_mul_left _ (Nat.two_pow_pos _)
 omega
theorem rch_high {m : Nat} {e : Int} (hm : m < 2 ^ 53) (he : e ≤ 971) : rch m e 342 = false := by
 unfold rch lhs rhs
 rw [decide_eq_false_iff_not, show (342 : Int).toNat = 342 from rfl, show (-342 : Int).toNat = 0 from rfl, Nat.pow_zero, Nat.mul_one]
 obtain ⟨K, hK⟩ : ∃ K, K = 342 := ⟨_, rfl⟩
 rw [← hK]
 have h1 : m * 2 ^ e.toNat < 2 ^ 53 * 2 ^ e.toNat := Nat.mul_lt_mul_of_pos_right hm (Nat.two_pow_pos _)
 rw [← Nat.pow_add] at h1
 have h2 : 2 ^ (53 + e.toNat) ≤ 2 ^ (3 * K) := Nat.pow_le_pow_right (by decide) (by omega)
 have h3 := two_ten K
 have h4 : 10 ^ K * 1 ≤ 10 ^ K * 2 ^ (-e).toNat := Nat.mul_le_mul_left _ (Nat.two_pow_pos _)
 omega
theorem Dex.some {m : Nat} {e : Int} (hm : 0 < m) (hm2 : m < 2 ^ 53) (he : -1074 ≤ e) (he2 : e ≤ 971) : ∃ D, Dex m e D ∧ -335 ≤ D ∧ D ≤ 342 := by
 have key : ∀ n : Nat, rch m e (-336 + n) = false → ∃ D, Dex m e D ∧ -335 ≤ D ∧ D ≤ -336 + n := by
  intro n
  induction n with
  | zero =>
   intro h
   have := rch_low hm he
   simp at h
   rw [h] at this
   cases this
  | succ n ih =>
   intro h
   cases c : rch m e (-336 + n) with
   | true =>
    refine ⟨-336 + ((n + 1 : Nat) : Int), ⟨?_, h⟩, by omega, by omega⟩
    rw [show -336 + ((n + 1 : Nat) : Int) - 1 = -336 + (n : Int) by omega]
    exact c
   | false =>
    obtain ⟨D, hD, h1, h2⟩ := ih c
    exact ⟨D, hD, h1, by omega⟩
 obtain ⟨D, hD, h1, h2⟩ := key 678 (rch_high hm2 he2)
 exact ⟨D, hD, h1, by omega⟩
theorem Dex.bound {m : Nat} {e D : Int} (h : Dex m e D) (hm : 0 < m) (hm2 : m < 2 ^ 53) (he : -1074 ≤ e) (he2 : e ≤ 971) : -335 ≤ D ∧ D ≤ 342 := by
 have h1 := h.lt (rch_low hm he)
 have h2 := h.ge (rch_high hm2 he2)
 omega
/-- the digits and the exponent that are shown -/
def repT (m : Nat) (e n D : Int) : List UInt8 := (Num.textN (nearN m e (D - n))).take n.toNat
def repX (m : Nat) (e n D : Int) : Int := if n < (Num.textN (nearN m e (D - n))).length then D + 1 else D
end Go.Flt
namespace Go.Proofs.YtdoeigngpemcgaaGreatDoor.Dec
open Go.RowKit Go.Flt Go.Proofs.YtdoeigngpemcgaaGreatDoor.PDec Go.Proofs.YtdoeigngpemcgaaGreatDoor.Pure Go.Proofs.YtdoeigngpemcgaaGreatDoorW.PrintWords Go.Proofs.YtdoeigngpemcgaaGreatDoorW.PrintLast Go.Proofs.YtdoeigngpemcgaaGreatDoorW.PrintMore
set_option linter.unusedVariables false
set_option linter.unusedSimpArgs false
theorem abs_and (a : Nat) (ha : a < 18446744073709551616) : bits .andNot .u64 (a : Int) 9223372036854775808 = ((a % 9223372036854775808 : Nat) : Int) := by
 rw [show (9223372036854775808 : Int) = ((9223372036854775808 : Nat) : Int) from rfl, u64_andNot_nat _ _ ha (by decide), show (18446744073709551615 - 9223372036854775808 : Nat) = 2 ^ 63 - 1 from rfl, Nat.and_two_pow_sub_one_eq_mod]
theorem res_four {fn : Func} {t u v x : Tmp} (h : fn.results = #[.tmp t, .tmp u, .tmp v, .tmp x]) (tmps : Array Value) (P : Program) (w : World) :
  (results fn tmps).run P w = .ok (.tuple #[tmps.getD t undef, tmps.getD u undef, tmps.getD v undef, tmps.getD x undef]) w := by
 simp [results, h]
theorem two_V (W : World) (lo hi : Int) : Kd.V (Kd.int .u32) 35 (W.alloc (.cells #[.int .u32 lo, .int .u32 hi] 35)) 0 (fun _ => True) (.slice (some ⟨W.heap.size, 0, none⟩) 2 2) [lo, hi] := by
 have h : Kd.R (Kd.int .u32) 35 (W.alloc (.cells #[.int .u32 lo, .int .u32 hi] 35)) W.heap.size (fun _ => True) (.slice (some ⟨W.heap.size, 0, none⟩) 2 2) [lo, hi] :=
  ⟨fun _ _ => trivial, [.int .u32 lo, .int .u32 hi], World.ownsRow_lit W _ 2 (Nat.le_refl _) (by simp [maxLen]) rfl, Reps.one (show Kd.M (Kd.int .u32) _ _ _ lo [.int .u32 lo] from rfl) (Reps.one (show Kd.M (Kd.int .u32) _ _ _ hi [.int .u32 hi] from rfl) (Reps.none _ _))⟩
 exact Kd.V_mono (Kd.V_map (Kd.R_V (base' := 0) h) (fun _ hf => hf)) (fun _ _ => trivial)
def fnan (a : Nat) : Bool := decide (9218868437227405312 < a % 9223372036854775808)
def finf (a : Nat) : Bool := decide (a % 9223372036854775808 = 9218868437227405312)
def ffin (a : Nat) : Bool := decide (a % 9223372036854775808 < 9218868437227405312)
theorem s_isNaN (w : World) (a : Nat) (ha : a < 18446744073709551616) : Calls Tryz.prog 59 #[.int .u64 (a : Int)] w fun e w' => e = .returned (.bool (fnan a)) ∧ Drawn0 w w' := by
 refine soft_isNaN.calls _ _ w ?_
 unfold soft_isNaN.f fnan
 rw [abs_and a ha]
 congr 1
 rw [decide_eq_decide]
 omega
theorem s_isInf (w : World) (a : Nat) (ha : a < 18446744073709551616) : Calls Tryz.prog 83 #[.int .u64 (a : Int)] w fun e w' => e = .returned (.bool (finf a)) ∧ Drawn0 w w' := by
 refine soft_isInf.calls _ _ w ?_
 unfold soft_isInf.f finf
 rw [abs_and a ha]
 congr 1
 rw [Bool.eq_iff_iff, beq_iff_eq, decide_eq_true_iff]
 omega
theorem ffin_iff (a : Nat) : ffin a = (!(fnan a) && !(finf a)) := by
 unfold ffin fnan finf
 rw [Bool.eq_iff_iff, Bool.and_eq_true, Bool.not_eq_true', Bool.not_eq_true', decide_eq_true_iff, decide_eq_false_iff_not, decide_eq_false_iff_not]
 omega
set_option maxHeartbeats 4000000 in
set_option maxRecDepth 100000 in
theorem s_Split_bad (w : World) (a : Nat) (ha : a < 18446744073709551616) (h : ffin a = false) : Calls Tryz.prog 36 #[.int .u64 (a : Int)] w fun e w' => e = .returned (.tuple #[.bool false, .slice none 0 0, .int .i64 0, .bool false]) ∧ Below w.heap.size w w' := by
 have HN := Aside0.mk (fun w => s_isNaN w a ha)
 have HI := Aside0.mk (fun w => s_isInf w a ha)
 rw [ffin_iff] at h
 obtain ⟨aa, haa⟩ : ∃ z : Int, (a : Int) = z := ⟨_, rfl⟩
 rw [haa] at HN HI ⊢
 have HB := Aside0.mk (Below.refl w.heap.size w)
 cases hn : fnan a with
 | true =>
  rw [hn] at HN
  clear hn h HI ha haa
  go_enter Tryz.func36, Tryz.ntmps36
  go_wp2_with (go_at_call 59; (with_reducible refine (HN.out _).mono ?_); rintro e w' ⟨rfl, ⟨nd, rfl⟩⟩)
  refine bodyPost_ret (res_four rfl _ _ _) rfl ?_
  exact ⟨rfl, by repeat (first | exact HB.out | apply pw_below_drewN)⟩
 | false =>
  have hi : finf a = true := by
   rw [hn] at h
   simpa using h
  rw [hn] at HN
  rw [hi] at HI
  clear hn hi h ha haa
  go_enter Tryz.func36, Tryz.ntmps36
  go_wp2_with (first | (go_at_call 59; (with_reducible refine (HN.out _).mono ?_); rintro e w' ⟨rfl, ⟨nd, rfl⟩⟩) | (go_at_call 83; (with_reducible refine (HI.out _).mono ?_); rintro e w' ⟨rfl, ⟨nd2, rfl⟩⟩))
  refine bodyPost_ret (res_four rfl _ _ _) rfl ?_
  exact ⟨rfl, by repeat (first | exact HB.out | apply pw_below_drewN)⟩
set_option maxHeartbeats 4000000 in
set_option maxRecDepth 100000 in
theorem s_Split_good (w : World) (a : Nat) (ha : a < 18446744073709551616) (h : ffin a = true) : Calls Tryz.prog 36 #[.int .u64 (a : Int)] w fun e w' => ∃ v, e = .returned (.tuple #[.bool (fneg a), v, .int .i64 (fpow a), .bool true]) ∧ Nm w' v (fmant a) ∧ Below w.heap.size w w' := by
 have hu102 := Tryz.underlying102
 have HN := Aside0.mk (fun w => s_isNaN w a ha)
 have HI := Aside0.mk (fun w => s_isInf w a ha)
 have HS := Aside0.mk (fun w => s_split w a ha)
 rw [ffin_iff, Bool.and_eq_true, Bool.not_eq_true', Bool.not_eq_true'] at h
 rw [h.1] at HN
 rw [h.2] at HI
 obtain ⟨aa, haa⟩ : ∃ z : Int, (a : Int) = z := ⟨_, rfl⟩
 rw [haa] at HN HI HS ⊢
 have HB := Aside0.mk (Below.refl w.heap.size w)
 obtain ⟨neg, hneg⟩ : ∃ z, fneg a = z := ⟨_, rfl⟩
 obtain ⟨m, hm⟩ : ∃ z : Int, ((fmant a : Nat) : Int) = z := ⟨_, rfl⟩
 obtain ⟨p, hp⟩ : ∃ z, fpow a = z := ⟨_, rfl⟩
 rw [hneg, hm, hp] at HS
 rw [hneg, hp]
 have hmb : 0 ≤ m ∧ m < 9007199254740992 := by
  have : fmant a < 9007199254740992 := by unfold fmant; split <;> omega
  omega
 obtain ⟨lo, hlo⟩ : ∃ z : Int, m % 4294967296 = z := ⟨_, rfl⟩
 obtain ⟨hi, hhi⟩ : ∃ z : Int, m / 4294967296 = z := ⟨_, rfl⟩
 have hhi2 : hi % 4294967296 = hi := by omega
 have HNorm : Aside0 (∀ w v, Kd.V (Kd.int .u32) 35 w 0 (fun _ => True) v [lo, hi] → Calls Tryz.prog 85 #[v] w fun e w' => ∃ r, e = .returned r ∧ Nm w' r (fmant a) ∧ Below w.heap.size w w') := ⟨fun w v hv => by
  obtain ⟨A, c, rfl⟩ := Kd.V_slice hv
  obtain ⟨_, h2, h3⟩ := Kd.V_reads' hv
  have := n_Norm (l := [lo, hi]) h3 h2 (by intro x hx; simp at hx; rcases hx with rfl | rfl <;> omega) (by simp)
  rw [show Num.valN [lo, hi] = fmant a by simp [Num.valN]; omega] at this
  exact this⟩
 clear h ha haa hmb hm hp hneg
 go_enter Tryz.func36, Tryz.ntmps36
 go_upto_region 4 with (first | (go_at_call 59; (with_reducible refine (HN.out _).mono ?_); rintro e w' ⟨rfl, ⟨nd, rfl⟩⟩) | (go_at_call 83; (with_reducible refine (HI.out _).mono ?_); rintro e w' ⟨rfl, ⟨nd2, rfl⟩⟩) | (go_at_call 84; (with_reducible refine (HS.out _).mono ?_); rintro e w' ⟨rfl, hb⟩; have n0_ := Aside0.mk (below_step (by repeat (first | exact HB.out | apply pw_below_drewN)) hb); clear HB hb; have HB := n0_; clear n0_))
 obtain ⟨g, hg⟩ : ∃ g, w'.heap.size = g := ⟨_, rfl⟩
 generalize hW : w'.alloc (Obj.cells #[Value.bool neg, Value.int IntKind.u64 m, Value.int IntKind.i64 p] 102) = W1
 have BK := Aside0.mk (show W1.heap[g]? = some (.cells #[.bool neg, .int .u64 m, .int .i64 p] 102 (0, 0)) by rw [← hW, ← hg]; exact blk_new _ _)
 have n0_ := Aside0.mk (show Below w.heap.size w W1 by rw [← hW]; exact HB.out.alloc (below_size HB.out) _)
 clear HB
 have HB := n0_
 clear n0_ hW
 rw [hg]
 clear hg
 have z0 : W1.cell? ⟨g, 0, none⟩ = some (.bool neg) := (blk_cell BK.out 0).trans rfl
 have z1 : W1.cell? ⟨g, 1, none⟩ = some (.int .u64 m) := (blk_cell BK.out 1).trans rfl
 have z2 : W1.cell? ⟨g, 2, none⟩ = some (.int .i64 p) := (blk_cell BK.out 2).trans rfl
 have u1 : IntKind.u32.wrap m = lo := by rw [IntKind.wrap_u32]; exact hlo
 have u2 : IntKind.u32.wrap hi = hi := by rw [IntKind.wrap_u32]; exact hhi2
 go_region_held3 (fun w' => w'.cell? ⟨g, 0, none⟩ = some (.bool neg) ∧ w'.cell? ⟨g, 1, none⟩ = some (.int .u64 m) ∧ w'.cell? ⟨g, 2, none⟩ = some (.int .i64 p) ∧ Below w.heap.size w w')
  (((try go_split_ands); refine ⟨?_, ?_, ?_, ?_⟩ <;> first
   | assumption
   | exact HB.out
   | exact pw_cell_below hb_ (by assumption)
   | exact pw_cell_below (below_drew (Below.refl _ _)) (by assumption)
   | exact pw_cell_below (below_drew (below_alloc (Below.refl _ _) _)) (by assumption)
   | exact pw_cell_below (below_alloc (Below.refl _ _) _) (by assumption)
   | exact below_drew (by assumption)
   | exact below_drew HB.out
   | exact below_alloc HB.out _
   | exact below_drew (below_alloc HB.out _)
   | exact below_alloc (by assumption) _
   | exact below_drew (below_alloc (by assumption) _)
   | exact Below.trans (by assumption) (hb_.mono (Below.size (by assumption)))))
  (first
   | (go_at_call 85; go_split_ands; (refine (HNorm.out _ _ (Kd.V_below (two_V _ lo hi) (by repeat (first | exact Below.refl _ _ | apply below_drew)))).mono ?_); rintro e w2 ⟨r, rfl, hr, hb_⟩; have hr' := Aside0.mk hr; clear hr))
 (try go_split_ands)
 go_wp2
 refine bodyPost_ret (res_four rfl _ _ _) rfl ?_
 exact ⟨_, rfl, hr'.out, by assumption⟩
end Go.Proofs.YtdoeigngpemcgaaGreatDoor.Dec
namespace Go.Read
open Go.Proofs.YtdoeigngpemcgaaGreatDoor
/-- one of some bytes stands first -/
def hasM (of l : List UInt8) : Bool := match l with | [] => false | c :: _ => of.contains c
/-- the first byte, if it is one of those -/
def lead (of l : List UInt8) : Nat := match l with | [] => 0 | c :: _ => if of.contains c then c.toNat else 0
def after (of l : List UInt8) : List UInt8 := if hasM of l then l.tail else l
def minus (l : List UInt8) : Bool := match l with | [] => false | c :: _ => c == 45
def isd (c : UInt8) : Bool := decide (48 ≤ c.toNat) && decide (c.toNat ≤ 57)
/-- the digits ahead, and what stands behind them -/
def dg (l : List UInt8) : List UInt8 := l.takeWhile isd
def past (l : List UInt8) : List UInt8 := l.dropWhile isd
/-- without the zeros ahead -/
def trim0 (l : List UInt8) : List UInt8 := l.dropWhile (· == 48)
/-- what an exponent's digits say, cut at a limit -/
def expo (neg : Bool) (l : List UInt8) : Int :=
 let n : Int := ((if 5 < (trim0 l).length then 99999 else Num.decL 0 (trim0 l) : Nat) : Int)
 if neg then -n else n
theorem dg_past (l : List UInt8) : dg l ++ past l = l := List.takeWhile_append_dropWhile
theorem dg_len (l : List UInt8) : (dg l).length ≤ l.length := by
 have := congrArg List.length (dg_past l)
 rw [List.length_append] at this
 omega
theorem dg_take (l : List UInt8) : l.take (dg l).length = dg l := by
 have : (dg l ++ past l).take (dg l).length = dg l := List.take_left
 rw [dg_past] at this
 exact this
theorem past_drop (l : List UInt8) : l.drop (dg l).length = past l := by
 have : (dg l ++ past l).drop (dg l).length = past l := List.drop_left
 rw [dg_past] at this
 exact this
theorem dg_at (l : List UInt8) (i : Nat) (h : i < (dg l).length) : isd (l[i]'(Nat.lt_of_lt_of_le h (dg_len l))) = true := by
 induction l generalizing i with
 | nil => exact absurd h (by simp [dg])
 | cons c t ih =>
  unfold dg at h
  rw [List.takeWhile_cons] at h
  by_cases k : isd c = true
  ·rw [if_pos k] at h
   cases i with
   | zero => exact k
   | succ i => exact ih i (by simpa [dg] using h)
  ·rw [if_neg k] at h
   exact absurd h (by simp)
theorem dg_end (l : List UInt8) (n : Nat) (hn : n = (dg l).length) (h : n < l.length) : isd (l[n]'h) = false := by
 induction l generalizing n with
 | nil => exact absurd h (by simp)
 | cons c t ih =>
  by_cases k : isd c = true
  ·have e : (dg (c :: t)).length = (dg t).length + 1 := by
    unfold dg
    rw [List.takeWhile_cons, if_pos k, List.length_cons]
   subst hn
   have := ih (dg t).length rfl (by rw [e, List.length_cons] at h; omega)
   simpa [e] using this
  ·have e : (dg (c :: t)).length = 0 := by
    unfold dg
    rw [List.takeWhile_cons, if_neg k]
    rfl
   subst hn
   simpa [e] using k
end Go.Read
namespace Go.Proofs.YtdoeigngpemcgaaGreatDoor.Dec
open Go.RowKit Go.Read Go.Proofs.YtdoeigngpemcgaaGreatDoor.Pure Go.Proofs.YtdoeigngpemcgaaGreatDoorW.PrintWords Go.Proofs.YtdoeigngpemcgaaGreatDoorW.PrintLast Go.Proofs.YtdoeigngpemcgaaGreatDoorW.PrintMore
set_option linter.unusedVariables false
set_option linter.unusedSimpArgs false
/-- a text as bytes -/
def bs (l : List UInt8) : ByteArray := ⟨l.toArray⟩
/-- a reader that stands ahead of l -/
def Rd (w : World) (g : Nat) (l : List UInt8) : Prop := w.heap[g]? = some (.cells #[.string (bs l)] 46 (0, 0))
theorem bs_size (l : List UInt8) : (bs l).size = l.length := by
 show l.toArray.size = _
 exact List.size_toArray
theorem bs_list (l : List UInt8) : (bs l).toList = l := ByteArray.toList_mk l
theorem bs_ne {c : UInt8} {l : List UInt8} : ¬ (bs (c :: l)).toList = [] := by rw [bs_list]; exact fun h => by cases h
theorem bs_tail {c : UInt8} {l : List UInt8} : (bs (c :: l)).extract 1 (bs (c :: l)).size = bs l := by
 rw [bs_size]
 show (ByteArray.mk (c :: l).toArray).extract 1 _ = _
 rw [ByteArray.extract_mk]
 show (ByteArray.mk _) = ByteArray.mk _
 congr 2
 show ((c :: l).drop 1).take _ = l
 rw [List.drop_succ_cons, List.drop_zero, List.take_of_length_le (by rw [List.length_cons]; omega)]
theorem index_mark (of : List UInt8) (c : UInt8) : (Lib.indexByte of c < 0) ↔ of.contains c = false := by
 induction of with
 | nil => exact ⟨fun _ => rfl, fun _ => by show (-1 : Int) < 0; decide⟩
 | cons b l ih =>
  have hg := Lib.indexByte_ge l c
  rw [Lib.indexByte, List.contains_cons]
  by_cases h : b = c
  ·rw [if_pos (by simp [h])]
   simp [h]
  ·rw [if_neg (by simpa using h)]
   have h2 : (c == b) = false := by simp; exact fun e => h e.symm
   rw [h2, Bool.false_or, ← ih]
   by_cases d : Lib.indexByte l c = -1
   ·rw [if_pos (by simpa using d)]; omega
   ·rw [if_neg (by simpa using d)]; omega
set_option maxHeartbeats 4000000 in
set_option maxRecDepth 100000 in
theorem d_take (w0 w : World) (g : Nat) (of l : List UInt8) (HB0 : Below w0.heap.size w0 w) (hg : w0.heap.size ≤ g) (h : Rd w g l) :
  Calls Tryz.prog 29 #[.pointer (some ⟨g, 0, none⟩), .string (bs of)] w fun e w' => e = .returned (.tuple #[.int .u8 (lead of l : Nat), .bool (hasM of l)]) ∧ Rd w' g (after of l) ∧ Below w0.heap.size w0 w' := by
 have HB := Aside0.mk HB0
 have HR := Aside0.mk h
 have GE := Aside0.mk hg
 have hu46 := Tryz.underlying46
 have z0 : w.cell? ⟨g, 0, none⟩ = some (.string (bs l)) := (blk_cell h 0).trans rfl
 have f0 := blk_frozen h 0
 clear h HB0 hg
 match l with
 | [] =>
  obtain ⟨s, hs⟩ : ∃ s, bs [] = s := ⟨_, rfl⟩
  have c1 : s.toList = [] := by rw [← hs]; exact bs_list []
  have c2 : s.toList.isEmpty = true := by rw [c1]; rfl
  rw [hs] at z0
  clear hs
  go_enter Tryz.func29, Tryz.ntmps29
  go_wp2
  go_ret2
  exact ⟨rfl, HR.out, HB.out⟩
 | c :: t =>
  have HI := Aside0.mk (fun w => Tryz.strings_IndexByte (bs of) (c.toNat : Nat) w)
  obtain ⟨i, hi⟩ : ∃ i : Int, Lib.indexByte (bs of).data.toList ((c.toNat : Nat) : Int).toNat.toUInt8 = i := ⟨_, rfl⟩
  have hi2 : i = Lib.indexByte of c := by
   rw [← hi]
   congr 1
   exact UInt8.ofNat_toNat
  rw [hi] at HI
  clear hi
  obtain ⟨s, hs⟩ : ∃ s, bs (c :: t) = s := ⟨_, rfl⟩
  have c1 : ¬ s.toList = [] := by rw [← hs]; exact bs_ne
  have c2 : s.toList.isEmpty = false := by rw [← hs, bs_list]; rfl
  have c3 : (0 : Int) < s.size := by rw [← hs, bs_size, List.length_cons]; omega
  have c4 : (1 : Int) ≤ s.size := by omega
  have c5 : ∀ h, s[0]'h = c := fun h => by subst hs; rfl
  have c6 : s.extract 1 s.size = bs t := by rw [← hs]; exact bs_tail
  rw [hs] at z0
  have HR2 := Aside0.mk (show w.heap[g]? = some (.cells #[.string s] 46 (0, 0)) by rw [← hs]; exact HR.out)
  obtain ⟨so, hso⟩ : ∃ s, bs of = s := ⟨_, rfl⟩
  rw [hso] at HI ⊢
  obtain ⟨cn, hcn⟩ : ∃ s, c.toNat = s := ⟨_, rfl⟩
  rw [hcn] at HI
  obtain ⟨v, hv⟩ : ∃ s, bs t = s := ⟨_, rfl⟩
  rw [hv] at c6
  by_cases k : of.contains c = true
  ·have k1 : ¬ i < 0 := by rw [hi2, index_mark, k]; simp
   have k2 := decide_eq_false k1
   have e1 : lead of (c :: t) = cn := by show (if _ then _ else _) = _; rw [if_pos k]; exact hcn
   have e2 : hasM of (c :: t) = true := k
   have e3 : after of (c :: t) = t := by unfold after; rw [e2]; rfl
   rw [e1, e2, e3]
   clear k hi2 e1 e2 e3 hso hs
   have c7 : ∀ h, (s[0]'h).toNat = cn := fun h => by rw [c5 h]; exact hcn
   go_enter Tryz.func29, Tryz.ntmps29
   go_wp2_with (go_at_call 68; (with_reducible refine (HI.out _).mono ?_); rintro e w' ⟨rfl, rfl⟩)
   go_ret2
   refine ⟨rfl, ?_, below_set HB.out GE.out⟩
   unfold Rd
   rw [hv]
   exact blk_put (cs := #[.string s]) HR2.out 0 _ rfl
  ·have k' : of.contains c = false := by cases h : of.contains c with | true => exact absurd h k | false => rfl
   have k1 : i < 0 := by rw [hi2, index_mark, k']
   have k2 := decide_eq_true k1
   have e1 : lead of (c :: t) = 0 := by show (if _ then _ else _) = _; rw [if_neg k]
   have e2 : hasM of (c :: t) = false := k'
   have e3 : after of (c :: t) = c :: t := by unfold after; rw [e2]; rfl
   rw [e1, e2, e3]
   have c7 : ∀ h, (s[0]'h).toNat = cn := fun h => by rw [c5 h]; exact hcn
   clear k k' hi2 e1 e2 e3 hso hs
   go_enter Tryz.func29, Tryz.ntmps29
   go_wp2_with (go_at_call 68; (with_reducible refine (HI.out _).mono ?_); rintro e w' ⟨rfl, rfl⟩)
   go_ret2
   exact ⟨rfl, HR.out, HB.out⟩
theorem d_sign (w0 w : World) (g : Nat) (l : List UInt8) (HB0 : Below w0.heap.size w0 w) (hg : w0.heap.size ≤ g) (h : Rd w g l) :
  Calls Tryz.prog 27 #[.pointer (some ⟨g, 0, none⟩)] w fun e w' => e = .returned (.tuple #[.bool (minus l), .bool (hasM [43, 45] l)]) ∧ Rd w' g (after [43, 45] l) ∧ Below w0.heap.size w0 w' := by
 have HT := Aside0.mk (d_take w0 w g [43, 45] l HB0 hg h)
 have hb : (bs [43, 45]) = ⟨#[43, 45]⟩ := rfl
 rw [hb] at HT
 obtain ⟨a, ha⟩ : ∃ z : Int, ((lead [43, 45] l : Nat) : Int) = z := ⟨_, rfl⟩
 obtain ⟨b, hb⟩ : ∃ z, hasM [43, 45] l = z := ⟨_, rfl⟩
 obtain ⟨n, hn⟩ : ∃ z, minus l = z := ⟨_, rfl⟩
 rw [ha, hb] at HT
 have c1 : (a == 45) = n := by
  rw [← ha, ← hn]
  unfold lead minus
  match l with
  | [] => rfl
  | c :: t =>
   show (((if _ then _ else _ : Nat) : Int) == 45) = (c == 45)
   by_cases k : c = 45
   ·subst k; rfl
   ·have k1 : (c == 45) = false := by simpa using k
    rw [k1]
    have k2 : ¬ c.toNat = 45 := fun e => k (UInt8.toNat_inj.1 e)
    split
    ·rw [beq_eq_false_iff_ne]; omega
    ·rfl
 have c2 : decide (a = 45) = n := by rw [← c1]; exact (Bool.beq_eq_decide_eq _ _).symm
 rw [hn, hb]
 clear h hg HB0 ha hb hn
 go_enter Tryz.func27, Tryz.ntmps27
 go_wp2_with (go_at_call 29; (with_reducible refine HT.out.mono ?_); rintro e w' ⟨rfl, hr, hbw⟩; have hr' := Aside0.mk hr; have hb' := Aside0.mk hbw; clear hr hbw)
 go_ret2
 exact ⟨rfl, hr'.out, hb'.out⟩
theorem bs_get (l : List UInt8) (i : Nat) (h : i < (bs l).size) (h' : i < l.length) : (bs l)[i]'h = l[i] := by
 show (bs l).data[i]'h = _
 simp [bs]
theorem bs_to (l : List UInt8) (n : Nat) : (bs l).extract 0 n = bs (l.take n) := by
 show (ByteArray.mk l.toArray).extract 0 n = _
 rw [ByteArray.extract_mk]
 rfl
theorem bs_from (l : List UInt8) (n : Nat) : (bs l).extract n (bs l).size = bs (l.drop n) := by
 rw [bs_size]
 show (ByteArray.mk l.toArray).extract n l.length = _
 rw [ByteArray.extract_mk, List.take_of_length_le (by rw [List.length_drop]; omega)]
 rfl
set_option maxHeartbeats 4000000 in
set_option maxRecDepth 100000 in
theorem d_digits (w0 w : World) (g : Nat) (l : List UInt8) (hl : l.length ≤ 1000000) (HB0 : Below w0.heap.size w0 w) (hg : w0.heap.size ≤ g) (h : Rd w g l) :
  Calls Tryz.prog 28 #[.pointer (some ⟨g, 0, none⟩)] w fun e w' => e = .returned (.string (bs (dg l))) ∧ Rd w' g (past l) ∧ Below w0.heap.size w0 w' := by
 have HB := Aside0.mk HB0
 have HR := Aside0.mk h
 have GE := Aside0.mk hg
 have hu46 := Tryz.underlying46
 have z0 : w.cell? ⟨g, 0, none⟩ = some (.string (bs l)) := (blk_cell h 0).trans rfl
 have f0 := blk_frozen h 0
 have hlt := blk_lt h
 obtain ⟨s, hs⟩ : ∃ s, bs l = s := ⟨_, rfl⟩
 have hsz : s.size = l.length := by rw [← hs, bs_size]
 obtain ⟨n, hn⟩ : ∃ n, (dg l).length = n := ⟨_, rfl⟩
 have hnl : n ≤ l.length := by rw [← hn]; exact dg_len l
 have hget : ∀ i h h', (s[i]'h) = l[i]'h' := fun i h h' => by subst hs; exact bs_get l i h h'
 have hto : s.extract 0 n = bs (dg l) := by rw [← hs, bs_to, ← hn, dg_take]
 have hfrom : s.extract n s.size = bs (past l) := by rw [← hs, bs_from, ← hn, past_drop]
 have HA : Aside0 (∀ i (h : i < s.size), i < n → isd (s[i]'h) = true) := ⟨fun i h k => by rw [hget i h (by omega)]; exact dg_at l i (by omega)⟩
 have HE : Aside0 (∀ (h : n < s.size), isd (s[n]'h) = false) := ⟨fun h => by rw [hget n h (by omega)]; exact dg_end l n hn.symm (by omega)⟩
 obtain ⟨u, hu⟩ : ∃ s, bs (dg l) = s := ⟨_, rfl⟩
 obtain ⟨v, hv⟩ : ∃ s, bs (past l) = s := ⟨_, rfl⟩
 unfold Rd
 rw [hu] at hto ⊢
 rw [hv] at hfrom ⊢
 rw [hs] at z0
 have HR2 := Aside0.mk (show w.heap[g]? = some (.cells #[.string s] 46 (0, 0)) by rw [← hs]; exact HR.out)
 have HSZ := Aside0.mk (show s.size ≤ 1000000 by omega)
 have HNS := Aside0.mk (show n ≤ s.size by omega)
 clear hget hs h HB0 hg HR hu hv hn hsz hl hnl
 go_enter Tryz.func28, Tryz.ntmps28
 go_wp2
 go_loopg [3] s.size (fun kq v3 wr => ∃ (i : Nat), v3 = .int .i64 (s.size : Nat) ∧ Aside0 (i + kq = s.size ∧ i ≤ n) ∧ Aside0 (wr.heap[w.heap.size]? = some (.stringIter s i)) ∧ Aside0 (Below w.heap.size w wr))
 case atStart => exact ⟨0, rfl, ⟨by omega, by omega⟩, ⟨World.iter_heap w s 0⟩, ⟨(Below.refl _ _).alloc (Nat.le_refl _) _⟩⟩
 case round =>
  obtain ⟨i, rfl, HQ, HT, HW⟩ := hrel
  by_cases hi : i < s.size
  ·have HBW := Aside0.mk (fun p => Lib.below_iterAt HW.out (k := w.heap.size) (Nat.le_refl _) s p)
   by_cases hin : i < n
   ·have hx := HA.out i hi hin
    unfold isd at hx
    rw [Bool.and_eq_true, decide_eq_true_iff, decide_eq_true_iff] at hx
    have hnx : ∀ ty, (Instr.next (.pointer (some ⟨w.heap.size, 0, none⟩)) true ty).run Tryz.prog wr = _ := fun ty => Lib.run_next_any_at wr w.heap.size s i ty HT.out hi
    rw [decode_ascii s i hi (by omega)] at hnx
    obtain ⟨r, hr⟩ : ∃ r : Int, (((s[i]'hi).toNat : Nat) : Int) = r := ⟨_, rfl⟩
    simp only [hr] at hnx
    have c1 := decide_eq_false (show ¬ r < 48 by omega)
    have c2 := decide_eq_false (show ¬ 57 < r by omega)
    have hbw2 := Aside0.mk (HBW.out (i + 1))
    have hit2 := Aside0.mk (Lib.iterAt_heap wr w.heap.size s i (i + 1) HT.out)
    obtain ⟨W1, hW1⟩ : ∃ W1, wr.iterAt w.heap.size s (i + 1) = W1 := ⟨_, rfl⟩
    simp only [hW1] at hnx hbw2 hit2
    obtain ⟨j, rfl⟩ : ∃ j, gk = j + 1 := ⟨gk - 1, by have := HQ.out; omega⟩
    have HQ2 := Aside0.mk (show i + 1 + j = s.size ∧ i + 1 ≤ n by have := HQ.out; omega)
    clear hW1 hr hx HQ
    go_wp2
    go_roundg j
    case measure => omega
    case rel => exact ⟨i + 1, rfl, HQ2, hit2, hbw2⟩
   ·have hin' : i = n := by have := HQ.out.2; omega
    subst hin'
    have hx := HE.out hi
    have hnx : ∀ ty, (Instr.next (.pointer (some ⟨w.heap.size, 0, none⟩)) true ty).run Tryz.prog wr = _ := fun ty => Lib.run_next_any_at wr w.heap.size s i ty HT.out hi
    have hr0 : (Utf8.decode s i).1 < 48 ∨ 57 < (Utf8.decode s i).1 := by
     rcases Nat.lt_or_ge (s[i]'hi).toNat 128 with k | k
     ·rw [decode_ascii s i hi k]
      unfold isd at hx
      rw [Bool.and_eq_false_iff, decide_eq_false_iff_not, decide_eq_false_iff_not] at hx
      show (s[i]'hi).toNat < 48 ∨ 57 < (s[i]'hi).toNat
      omega
     ·have := (decode_high s i hi k).1
      omega
    obtain ⟨r, hr⟩ : ∃ r : Int, (((Utf8.decode s i).1 : Nat) : Int) = r := ⟨_, rfl⟩
    have hr1 : r < 48 ∨ 57 < r := by omega
    have hbw2 := Aside0.mk (HBW.out (i + (Utf8.decode s i).2))
    obtain ⟨W1, hW1⟩ : ∃ W1, wr.iterAt w.heap.size s (i + (Utf8.decode s i).2) = W1 := ⟨_, rfl⟩
    simp only [hW1, hr] at hnx hbw2
    have z1 : W1.cell? ⟨g, 0, none⟩ = some (.string s) := pw_cell_below hbw2.out z0
    have HR3 := Aside0.mk (blk_below HR2.out hbw2.out)
    have f1 := blk_frozen HR3.out 0
    have HB2 := Aside0.mk (below_step HB.out hbw2.out)
    have b1 : (0 : Int) ≤ (i : Int) := by omega
    have b2 : (i : Int) ≤ (s.size : Nat) := by omega
    clear hW1 hr hr0 hx
    rcases Int.lt_or_le r 48 with k | k
    ·have c1 := decide_eq_true k
     clear hr1 k
     go_wp2
     go_ret
     exact ⟨rfl, blk_put (cs := #[.string s]) HR3.out 0 _ rfl, below_set HB2.out GE.out⟩
    ·have c1 := decide_eq_false (show ¬ r < 48 by omega)
     have c2 := decide_eq_true (show 57 < r by omega)
     clear hr1 k
     go_wp2
     go_ret
     exact ⟨rfl, blk_put (cs := #[.string s]) HR3.out 0 _ rfl, below_set HB2.out GE.out⟩
  ·have hin' : n = s.size := by have := HQ.out; have := HNS.out; omega
   have hnx : ∀ ty, (Instr.next (.pointer (some ⟨w.heap.size, 0, none⟩)) true ty).run Tryz.prog wr = _ := fun ty => Lib.run_next_end_at wr w.heap.size s i ty HT.out hi
   have z1 : wr.cell? ⟨g, 0, none⟩ = some (.string s) := pw_cell_below HW.out z0
   have HR3 := Aside0.mk (blk_below HR2.out HW.out)
   have f1 := blk_frozen HR3.out 0
   have HB2 := Aside0.mk (below_step HB.out HW.out)
   rw [hin'] at hto hfrom
   go_wp2
   go_ret
   have e : v = ByteArray.empty := by rw [← hfrom]; simp
   rw [e]
   exact ⟨rfl, blk_put (cs := #[.string s]) HR3.out 0 _ rfl, below_set HB2.out GE.out⟩
theorem bytes_below (w : World) (e : TypeId) (s : ByteArray) : Below w.heap.size w (Lib.bytesWorld w e s) :=
 ⟨rfl, rfl, rfl, by rw [Lib.bytesWorld_size]; omega, fun k hk => Lib.bytesWorld_at_old w e s k (by omega)⟩
theorem atoi_dec (l : List UInt8) (h : Num.digs l = true) : Lib.atoi (48 :: l) = some ((Num.decL 0 l : Nat) : Int) := by
 have key : ∀ (l : List UInt8) (a : Nat), Num.digs l = true → Lib.decFrom a l = some (Num.decL a l) := by
  intro l
  induction l with
  | nil => exact fun _ _ => rfl
  | cons c t ih =>
   intro a h
   have hc := Num.digs_mem h c List.mem_cons_self
   have ht : Num.digs t = true := by
    unfold Num.digs at *
    rw [List.all_eq_true] at *
    exact fun x hx => h x (List.mem_cons_of_mem _ hx)
   have hv : Lib.digitVal c = some (c.toNat - 48) := by unfold Lib.digitVal; rw [if_pos hc]
   unfold Lib.decFrom
   rw [hv]
   exact ih _ ht
 have k := key (48 :: l) 0 (by unfold Num.digs at *; rw [List.all_cons, h]; rfl)
 rw [Lib.atoi, if_neg (by decide), if_neg (by decide)]
 unfold Lib.decNat
 rw [if_neg (by simp), k]
 rfl
set_option maxHeartbeats 4000000 in
set_option maxRecDepth 100000 in
theorem d_exponent (w : World) (neg : Bool) (l : List UInt8) (h : Num.digs l = true) (hl : l.length ≤ 1000000) :
  Calls Tryz.prog 30 #[.bool neg, .string (bs l)] w fun e w' => e = .returned (.int .i64 (expo neg l)) ∧ Below w.heap.size w w' := by
 have hd : Num.digs (trim0 l) = true := by
  unfold Num.digs at *
  rw [List.all_eq_true] at *
  exact fun x hx => h x ((List.dropWhile_sublist _).mem hx)
 have HT : Aside0 (∀ w, Calls Tryz.prog 69 #[.string (bs l), .string ⟨#[48]⟩] w fun x w' => x = .returned (.string (bs (trim0 l))) ∧ w' = w) := ⟨fun w => Tryz.strings_TrimLeft_one (bs l) 48 (by decide) w⟩
 have hle : (trim0 l).length ≤ l.length := (List.dropWhile_sublist _).length_le
 obtain ⟨s, hs⟩ : ∃ s, bs l = s := ⟨_, rfl⟩
 obtain ⟨m, hm⟩ : ∃ m : List UInt8, (if 5 < (trim0 l).length then [57, 57, 57, 57, 57] else trim0 l) = m := ⟨_, rfl⟩
 have hm5 : m.length ≤ 5 := by rw [← hm]; split; decide; omega
 have hmd : Num.digs m = true := by rw [← hm]; split; decide; exact hd
 have hv : expo neg l = if neg then -((Num.decL 0 m : Nat) : Int) else ((Num.decL 0 m : Nat) : Int) := by
  unfold expo
  rw [← hm]
  by_cases k : 5 < (trim0 l).length
  ·rw [if_pos k, if_pos k]; rfl
  ·rw [if_neg k, if_neg k]
 obtain ⟨x, hx⟩ : ∃ x : Int, ((Num.decL 0 m : Nat) : Int) = x := ⟨_, rfl⟩
 have hxb : 0 ≤ x ∧ x < 100000 := by
  have := Num.decL_lt m (Num.digs_mem hmd)
  have : 10 ^ m.length ≤ 10 ^ 5 := Nat.pow_le_pow_right (by decide) hm5
  omega
 have HA : Aside0 (∀ w, Calls Tryz.prog 70 #[.string (bs (48 :: m))] w fun e w' => e = .returned (.tuple #[.int .i64 x, .nilIface]) ∧ Below w.heap.size w w') := ⟨fun w => by
  refine (Tryz.strconv_Atoi (bs (48 :: m)) x (by rw [bs_size, List.length_cons]; omega) (by rw [← hx]; exact atoi_dec m hmd) w).mono ?_
  rintro e w' ⟨rfl, t, rfl⟩
  exact ⟨rfl, bytes_below w 5 t⟩⟩
 obtain ⟨y, hy⟩ : ∃ s, bs (48 :: m) = s := ⟨_, rfl⟩
 rw [hy] at HA
 rw [hs] at HT ⊢
 obtain ⟨t, ht⟩ : ∃ s, bs (trim0 l) = s := ⟨_, rfl⟩
 rw [ht] at HT
 have hts : t.size = (trim0 l).length := by rw [← ht, bs_size]
 rw [hv, hx]
 have HB := Aside0.mk (Below.refl w.heap.size w)
 have w1 : wrap64 (-x) = -x := i64_id (by omega) (by omega)
 have w2 : IntKind.i64.wrap (-x) = -x := (i64_w _).trans w1
 have hcat : ⟨#[48]⟩ ++ bs m = y := by rw [← hy]; apply ByteArray.ext; simp [bs]
 have hsz : ¬ 9223372036854775807 < 1 + (bs m).size := by rw [bs_size]; omega
 by_cases k : 5 < (trim0 l).length
 ·have c1 := decide_eq_true (show (5 : Int) < (t.size : Nat) by omega)
  rw [if_pos k] at hm
  have hmm : bs m = ⟨#[57, 57, 57, 57, 57]⟩ := by rw [← hm]; rfl
  rw [hmm] at hcat hsz
  clear hv hx h hl hd hle hs hm hm5 hmd ht hts hy hmm k hxb
  cases neg <;>
  (go_enter Tryz.func30, Tryz.ntmps30
   go_wp2_with (first | (go_at_call 69; (with_reducible refine (HT.out _).mono ?_); rintro e w' ⟨rfl, rfl⟩) | (go_at_call 70; (with_reducible refine (HA.out _).mono ?_); rintro e w' ⟨rfl, hb⟩; have n0_ := Aside0.mk (below_step HB.out hb); clear HB hb; have HB := n0_; clear n0_))
   go_ret
   exact ⟨rfl, HB.out⟩)
 ·have c1 := decide_eq_false (show ¬ (5 : Int) < (t.size : Nat) by omega)
  rw [if_neg k] at hm
  have hmm : bs m = t := by rw [← hm]; exact ht
  rw [hmm] at hcat hsz
  clear hv hx h hl hd hle hs hm hm5 hmd ht hts hy hmm k hxb
  cases neg <;>
  (go_enter Tryz.func30, Tryz.ntmps30
   go_wp2_with (first | (go_at_call 69; (with_reducible refine (HT.out _).mono ?_); rintro e w' ⟨rfl, rfl⟩) | (go_at_call 70; (with_reducible refine (HA.out _).mono ?_); rintro e w' ⟨rfl, hb⟩; have n0_ := Aside0.mk (below_step HB.out hb); clear HB hb; have HB := n0_; clear n0_))
   go_ret
   exact ⟨rfl, HB.out⟩)
end Go.Proofs.YtdoeigngpemcgaaGreatDoor.Dec
namespace Go.Proofs.YtdoeigngpemcgaaGreatDoor.Dec
open Go.RowKit Go.Flt Go.Read Go.Proofs.YtdoeigngpemcgaaGreatDoor.Pure Go.Proofs.YtdoeigngpemcgaaGreatDoorW.PrintWords Go.Proofs.YtdoeigngpemcgaaGreatDoorW.PrintLast Go.Proofs.YtdoeigngpemcgaaGreatDoorW.PrintMore
set_option linter.unusedVariables false
set_option linter.unusedSimpArgs false
theorem res_row_tmp {P : Program} {fn : Func} {p u : Tmp} {ty : TypeId} (h : fn.results = #[.cell p ty, .tmp u]) (tmps : Array Value) (w : World) (g : Nat) (t : TypeId) (cs : Array Value) (fr : Nat × Nat) (d : TypeDesc)
  (hp : tmps.getD p undef = .pointer (some ⟨g, 0, none⟩)) (hg : w.heap[g]? = some (.cells cs t fr))
  (hu : P.underlying ty = some d) (hd : (match d with | .struct _ | .array _ _ => true | _ => false) = true) (hi : (P.info? ty).map (·.size) = some cs.size) :
  (results fn tmps).run P w = .ok (.tuple #[.agg cs, tmps.getD u undef]) w := by
 have hp' : tmps[p]?.getD undef = .pointer (some ⟨g, 0, none⟩) := by simpa using hp
 rw [results_cell_tmp h]
 simp [hp', asAddr, run_loadVar_row w g t ty cs fr d hg hu hd hi, Result.andThen]
theorem fmant_lt (a : Nat) : fmant a < 2 ^ 53 := by
 unfold fmant
 split <;> omega
theorem fpow_bound (a : Nat) (h : ffin a = true) : -1074 ≤ fpow a ∧ fpow a ≤ 971 := by
 unfold ffin at h
 rw [decide_eq_true_iff] at h
 unfold fpow fexp
 split <;> omega
theorem s_Split_any (w : World) (a : Nat) (ha : a < 18446744073709551616) : Calls Tryz.prog 36 #[.int .u64 (a : Int)] w fun e w' => ∃ neg v p, e = .returned (.tuple #[.bool neg, v, .int .i64 p, .bool (ffin a)]) ∧ Below w.heap.size w w' := by
 cases h : ffin a with
 | true =>
  refine (s_Split_good w a ha h).mono ?_
  rintro e w' ⟨v, rfl, -, hb⟩
  exact ⟨_, _, _, rfl, hb⟩
 | false =>
  refine (s_Split_bad w a ha h).mono ?_
  rintro e w' ⟨rfl, hb⟩
  exact ⟨_, _, _, rfl, hb⟩
set_option maxHeartbeats 8000000 in
set_option maxRecDepth 100000 in
theorem d_Rep_bad (w : World) (a : Nat) (ha : a < 18446744073709551616) (n : Int) (h : n < 1 ∨ 40 < n ∨ ffin a = false) : Calls Tryz.prog 13 #[.int .u64 (a : Int), .int .i64 n] w fun e w' => e = .returned (.tuple #[.agg #[.string ⟨#[]⟩, .int .i64 0, .bool false], .int .i64 1]) ∧ Below w.heap.size w w' := by
 have HS := Aside0.mk (fun w => s_Split_any w a ha)
 obtain ⟨aa, haa⟩ : ∃ z : Int, (a : Int) = z := ⟨_, rfl⟩
 obtain ⟨fin, hfin⟩ : ∃ z, ffin a = z := ⟨_, rfl⟩
 rw [haa, hfin] at HS
 rw [hfin] at h
 rw [haa]
 clear ha haa hfin
 by_cases c1 : n < 1
 ·have d1 := decide_eq_true c1
  clear h c1
  go_enter Tryz.func13, Tryz.ntmps13
  go_upto_region 1 with (fail)
  obtain ⟨g, hg⟩ : ∃ g, w.heap.size = g := ⟨_, rfl⟩
  generalize hW : w.alloc _ = W1
  have BK := Aside0.mk (show W1.heap[g]? = some (.cells #[.string ⟨#[]⟩, .int .i64 0, .bool false] 28 (0, 0)) by rw [← hW, ← hg]; exact blk_new _ _)
  have HB := Aside0.mk (show Below w.heap.size w W1 by rw [← hW]; exact below_alloc (Below.refl _ _) _)
  have GE := Aside0.mk (show w.heap.size ≤ g by omega)
  clear hW
  rw [hg]
  clear hg
  go_wp2_with ((go_at_call 36; (with_reducible refine (HS.out _).mono ?_); rintro e w' ⟨neg, v, p, rfl, hb⟩; have n0_ := Aside0.mk (below_step HB.out hb); have n1_ := Aside0.mk (blk_below BK.out hb); clear HB BK; have HB := n0_; have BK := n1_; clear n0_ n1_; have z0 := (blk_cell BK.out 0).trans (show _ = some (Value.string ⟨#[]⟩) from rfl); have z1 := (blk_cell BK.out 1).trans (show _ = some (Value.int .i64 0) from rfl); have z2 := (blk_cell BK.out 2).trans (show _ = some (Value.bool false) from rfl); have f0 := blk_frozen BK.out 0; have f1 := blk_frozen BK.out 1; have f2 := blk_frozen BK.out 2; clear hb))
  refine bodyPost_ret (res_row_tmp rfl _ _ g 28 #[.string ⟨#[]⟩, .int .i64 0, .bool false] (0, 0) _ rfl (by refine blk_put (cs := #[.string ⟨#[]⟩, .int .i64 0, .bool false]) ?_ 2 _ rfl; refine blk_put (cs := #[.string ⟨#[]⟩, .int .i64 0, .bool false]) ?_ 1 _ rfl; refine blk_put (cs := #[.string ⟨#[]⟩, .int .i64 0, .bool false]) ?_ 0 _ rfl; exact BK.out) Tryz.underlying28 rfl (by kernel_rfl)) rfl ?_
  exact ⟨rfl, below_set (below_set (below_set HB.out GE.out) GE.out) GE.out⟩
 have d1 := decide_eq_false c1
 by_cases c2 : 40 < n
 ·have d2 := decide_eq_true c2
  clear h c1 c2
  go_enter Tryz.func13, Tryz.ntmps13
  go_upto_region 1 with (fail)
  obtain ⟨g, hg⟩ : ∃ g, w.heap.size = g := ⟨_, rfl⟩
  generalize hW : w.alloc _ = W1
  have BK := Aside0.mk (show W1.heap[g]? = some (.cells #[.string ⟨#[]⟩, .int .i64 0, .bool false] 28 (0, 0)) by rw [← hW, ← hg]; exact blk_new _ _)
  have HB := Aside0.mk (show Below w.heap.size w W1 by rw [← hW]; exact below_alloc (Below.refl _ _) _)
  have GE := Aside0.mk (show w.heap.size ≤ g by omega)
  clear hW
  rw [hg]
  clear hg
  go_wp2_with ((go_at_call 36; (with_reducible refine (HS.out _).mono ?_); rintro e w' ⟨neg, v, p, rfl, hb⟩; have n0_ := Aside0.mk (below_step HB.out hb); have n1_ := Aside0.mk (blk_below BK.out hb); clear HB BK; have HB := n0_; have BK := n1_; clear n0_ n1_; have z0 := (blk_cell BK.out 0).trans (show _ = some (Value.string ⟨#[]⟩) from rfl); have z1 := (blk_cell BK.out 1).trans (show _ = some (Value.int .i64 0) from rfl); have z2 := (blk_cell BK.out 2).trans (show _ = some (Value.bool false) from rfl); have f0 := blk_frozen BK.out 0; have f1 := blk_frozen BK.out 1; have f2 := blk_frozen BK.out 2; clear hb))
  refine bodyPost_ret (res_row_tmp rfl _ _ g 28 #[.string ⟨#[]⟩, .int .i64 0, .bool false] (0, 0) _ rfl (by refine blk_put (cs := #[.string ⟨#[]⟩, .int .i64 0, .bool false]) ?_ 2 _ rfl; refine blk_put (cs := #[.string ⟨#[]⟩, .int .i64 0, .bool false]) ?_ 1 _ rfl; refine blk_put (cs := #[.string ⟨#[]⟩, .int .i64 0, .bool false]) ?_ 0 _ rfl; exact BK.out) Tryz.underlying28 rfl (by kernel_rfl)) rfl ?_
  exact ⟨rfl, below_set (below_set (below_set HB.out GE.out) GE.out) GE.out⟩
 ·have d2 := decide_eq_false c2
  have d3 : fin = false := by rcases h with h | h | h; exact absurd h c1; exact absurd h c2; exact h
  subst d3
  clear h c1 c2
  go_enter Tryz.func13, Tryz.ntmps13
  go_upto_region 1 with (fail)
  obtain ⟨g, hg⟩ : ∃ g, w.heap.size = g := ⟨_, rfl⟩
  generalize hW : w.alloc _ = W1
  have BK := Aside0.mk (show W1.heap[g]? = some (.cells #[.string ⟨#[]⟩, .int .i64 0, .bool false] 28 (0, 0)) by rw [← hW, ← hg]; exact blk_new _ _)
  have HB := Aside0.mk (show Below w.heap.size w W1 by rw [← hW]; exact below_alloc (Below.refl _ _) _)
  have GE := Aside0.mk (show w.heap.size ≤ g by omega)
  clear hW
  rw [hg]
  clear hg
  go_wp2_with ((go_at_call 36; (with_reducible refine (HS.out _).mono ?_); rintro e w' ⟨neg, v, p, rfl, hb⟩; have n0_ := Aside0.mk (below_step HB.out hb); have n1_ := Aside0.mk (blk_below BK.out hb); clear HB BK; have HB := n0_; have BK := n1_; clear n0_ n1_; have z0 := (blk_cell BK.out 0).trans (show _ = some (Value.string ⟨#[]⟩) from rfl); have z1 := (blk_cell BK.out 1).trans (show _ = some (Value.int .i64 0) from rfl); have z2 := (blk_cell BK.out 2).trans (show _ = some (Value.bool false) from rfl); have f0 := blk_frozen BK.out 0; have f1 := blk_frozen BK.out 1; have f2 := blk_frozen BK.out 2; clear hb))
  refine bodyPost_ret (res_row_tmp rfl _ _ g 28 #[.string ⟨#[]⟩, .int .i64 0, .bool false] (0, 0) _ rfl (by refine blk_put (cs := #[.string ⟨#[]⟩, .int .i64 0, .bool false]) ?_ 2 _ rfl; refine blk_put (cs := #[.string ⟨#[]⟩, .int .i64 0, .bool false]) ?_ 1 _ rfl; refine blk_put (cs := #[.string ⟨#[]⟩, .int .i64 0, .bool false]) ?_ 0 _ rfl; exact BK.out) Tryz.underlying28 rfl (by kernel_rfl)) rfl ?_
  exact ⟨rfl, below_set (below_set (below_set HB.out GE.out) GE.out) GE.out⟩
theorem rep48 (k : Nat) : Lib.repeatL [48] k = List.replicate k 48 := by
 induction k with
 | zero => rfl
 | succ k ih => rw [Lib.repeatL, ih, List.replicate_succ]; rfl
theorem d_Repeat (w : World) (n : Int) (h0 : 0 ≤ n) (h1 : n ≤ 1000000) : Calls Tryz.prog 37 #[.string ⟨#[48]⟩, .int .i64 n] w fun e w' => e = .returned (.string (bs (List.replicate n.toNat 48))) ∧ Below w.heap.size w w' := by
 have h := Tryz.strings_Repeat ⟨#[48]⟩ n.toNat w (by omega) (by show 1 * _ ≤ _; omega)
 rw [show ((n.toNat : Nat) : Int) = n by omega] at h
 have e : Lib.repeatL (⟨#[48]⟩ : ByteArray).data.toList n.toNat = List.replicate n.toNat 48 := rep48 _
 rw [e] at h
 exact h
set_option maxHeartbeats 8000000 in
set_option maxRecDepth 100000 in
theorem d_Rep_zero (w : World) (a : Nat) (ha : a < 18446744073709551616) (hf : ffin a = true) (hz : fmant a = 0) (n : Int) (h0 : 1 ≤ n) (h1 : n ≤ 40) : Calls Tryz.prog 13 #[.int .u64 (a : Int), .int .i64 n] w fun e w' => e = .returned (.tuple #[.agg #[.string (bs (List.replicate n.toNat 48)), .int .i64 0, .bool (fneg a)], .int .i64 0]) ∧ Below w.heap.size w w' := by
 have HS := Aside0.mk (fun w => s_Split_good w a ha hf)
 have HR := Aside0.mk (fun w => d_Repeat w n (by omega) (by omega))
 obtain ⟨aa, haa⟩ : ∃ z : Int, (a : Int) = z := ⟨_, rfl⟩
 obtain ⟨neg, hneg⟩ : ∃ z, fneg a = z := ⟨_, rfl⟩
 obtain ⟨t, ht⟩ : ∃ z, bs (List.replicate n.toNat 48) = z := ⟨_, rfl⟩
 rw [haa, hneg, hz] at HS
 rw [ht] at HR
 rw [haa, hneg, ht]
 have d1 := decide_eq_false (show ¬ n < 1 by omega)
 have d2 := decide_eq_false (show ¬ 40 < n by omega)
 have HZ := Aside0.mk (show (Num.wordsN 0).length = 0 by rw [Num.wordsN_zero]; rfl)
 clear ha hf hz haa hneg ht h0 h1
 go_enter Tryz.func13, Tryz.ntmps13
 go_upto_region 1 with (fail)
 obtain ⟨g, hg⟩ : ∃ g, w.heap.size = g := ⟨_, rfl⟩
 generalize hW : w.alloc _ = W1
 have BK := Aside0.mk (show W1.heap[g]? = some (.cells #[.string ⟨#[]⟩, .int .i64 0, .bool false] 28 (0, 0)) by rw [← hW, ← hg]; exact blk_new _ _)
 have HB := Aside0.mk (show Below w.heap.size w W1 by rw [← hW]; exact below_alloc (Below.refl _ _) _)
 have GE := Aside0.mk (show w.heap.size ≤ g by omega)
 clear hW
 rw [hg]
 clear hg
 go_wp2_with (first | (go_at_call 36; (with_reducible refine (HS.out _).mono ?_); rintro e w' ⟨v, rfl, hv, hb⟩; obtain ⟨A, c, hva, -, -, -⟩ := hv.open; rw [HZ.out] at hva; subst hva; clear hv; have n0_ := Aside0.mk (below_step HB.out hb); have n1_ := Aside0.mk (blk_below BK.out hb); clear HB BK; have HB := n0_; have BK := n1_; clear n0_ n1_; have z0 := (blk_cell BK.out 0).trans (show _ = some (Value.string ⟨#[]⟩) from rfl); have z1 := (blk_cell BK.out 1).trans (show _ = some (Value.int .i64 0) from rfl); have z2 := (blk_cell BK.out 2).trans (show _ = some (Value.bool false) from rfl); have f0 := blk_frozen BK.out 0; have f1 := blk_frozen BK.out 1; have f2 := blk_frozen BK.out 2; clear hb) | (go_at_call 37; (with_reducible refine (HR.out _).mono ?_); rintro e w'' ⟨rfl, hb⟩; clear z0 z1 z2 f0 f1 f2; have n0_ := Aside0.mk (below_step HB.out hb); have n1_ := Aside0.mk (blk_below BK.out hb); clear HB BK; have HB := n0_; have BK := n1_; clear n0_ n1_; have z0 := (blk_cell BK.out 0).trans (show _ = some (Value.string ⟨#[]⟩) from rfl); have z1 := (blk_cell BK.out 1).trans (show _ = some (Value.int .i64 0) from rfl); have z2 := (blk_cell BK.out 2).trans (show _ = some (Value.bool false) from rfl); have f0 := blk_frozen BK.out 0; have f1 := blk_frozen BK.out 1; have f2 := blk_frozen BK.out 2; clear hb))
 refine bodyPost_ret (res_row_tmp rfl _ _ g 28 #[.string t, .int .i64 0, .bool neg] (0, 0) _ rfl (by refine blk_put (cs := #[.string t, .int .i64 0, .bool false]) ?_ 2 _ rfl; refine blk_put (cs := #[.string t, .int .i64 0, .bool false]) ?_ 1 _ rfl; refine blk_put (cs := #[.string ⟨#[]⟩, .int .i64 0, .bool false]) ?_ 0 _ rfl; exact BK.out) Tryz.underlying28 rfl (by kernel_rfl)) rfl ?_
 exact ⟨rfl, below_set (below_set (below_set HB.out GE.out) GE.out) GE.out⟩
theorem tdiv_bound (s : Int) (h : -32400000 ≤ s) (h2 : s ≤ 32400000) : -324 ≤ s.tdiv 100000 ∧ s.tdiv 100000 ≤ 324 := by
 rcases Int.le_total 0 s with c | c
 ·rw [Int.tdiv_eq_ediv_of_nonneg c]
  omega
 ·obtain ⟨z, hz⟩ : ∃ z, s = -z := ⟨-s, by omega⟩
  subst hz
  rw [Int.neg_tdiv, Int.tdiv_eq_ediv_of_nonneg (by omega)]
  omega
set_option maxHeartbeats 16000000 in
set_option maxRecDepth 100000 in
theorem d_Rep_main (w : World) (a : Nat) (ha : a < 18446744073709551616) (hf : ffin a = true) (hz : 0 < fmant a) (n : Int) (h0 : 1 ≤ n) (h1 : n ≤ 40) (D : Int) (hD : Dex (fmant a) (fpow a) D) : Calls Tryz.prog 13 #[.int .u64 (a : Int), .int .i64 n] w fun e w' => e = .returned (.tuple #[.agg #[.string (bs (repT (fmant a) (fpow a) n D)), .int .i64 (repX (fmant a) (fpow a) n D), .bool (fneg a)], .int .i64 0]) ∧ Below w.heap.size w w' := by
 have HS := Aside0.mk (fun w => s_Split_good w a ha hf)
 have hM := fmant_lt a
 obtain ⟨he1, he2⟩ := fpow_bound a hf
 obtain ⟨aa, haa⟩ : ∃ z : Int, (a : Int) = z := ⟨_, rfl⟩
 obtain ⟨neg, hneg⟩ : ∃ z, fneg a = z := ⟨_, rfl⟩
 rw [haa, hneg] at HS
 rw [haa, hneg]
 obtain ⟨M, hMM⟩ : ∃ z, fmant a = z := ⟨_, rfl⟩
 obtain ⟨e, hee⟩ : ∃ z, fpow a = z := ⟨_, rfl⟩
 rw [hMM, hee] at HS hD ⊢
 rw [hMM] at hM hz
 rw [hee] at he1 he2
 obtain ⟨hD1, hD2⟩ := hD.bound hz hM he1 he2
 have fM : Fit M := fit_lt hM (by omega)
 have HBits := Aside0.mk (fun (w : World) (v : Value) (h : Nm w v M) => n_Bits h fM)
 have hb53 : Num.bitsN M ≤ 53 := bits_lt hM
 obtain ⟨b, hbb⟩ : ∃ z : Int, ((Num.bitsN M : Nat) : Int) = z := ⟨_, rfl⟩
 rw [hbb] at HBits
 have hb0 : 0 ≤ b ∧ b ≤ 53 := by omega
 obtain ⟨s1, hs1⟩ : ∃ z, b + e = z := ⟨_, rfl⟩
 obtain ⟨s2, hs2⟩ : ∃ z, s1 * 30103 = z := ⟨_, rfl⟩
 obtain ⟨s3, hs3⟩ : ∃ z, s2.tdiv 100000 = z := ⟨_, rfl⟩
 have hs3b := tdiv_bound s2 (by omega) (by omega)
 rw [hs3] at hs3b
 obtain ⟨x0, hx0⟩ : ∃ z, s3 + 1 = z := ⟨_, rfl⟩
 have v1 : wrap64 (b + e) = s1 := by rw [hs1, i64_id (by omega) (by omega)]
 have v2 : IntKind.i64.wrap (b + e) = s1 := (i64_w _).trans v1
 have v3 : wrap64 (s1 * 30103) = s2 := by rw [hs2, i64_id (by omega) (by omega)]
 have v4 : IntKind.i64.wrap (s1 * 30103) = s2 := (i64_w _).trans v3
 have v5 : wrap64 s3 = s3 := i64_id (by omega) (by omega)
 have v6 : IntKind.i64.wrap s3 = s3 := (i64_w _).trans v5
 have v7 : wrap64 (s3 + 1) = x0 := by rw [hx0, i64_id (by omega) (by omega)]
 have v8 : IntKind.i64.wrap (s3 + 1) = x0 := (i64_w _).trans v7
 have HX0 := Aside0.mk (show -400 ≤ x0 ∧ x0 ≤ 400 by omega)
 have HDB := Aside0.mk (show -335 ≤ D ∧ D ≤ 342 by omega)
 have HDD := Aside0.mk hD
 have HRch := Aside0.mk (fun (w : World) (v : Value) (h : Nm w v M) (x : Int) (k1 : -400 ≤ x) (k2 : x ≤ 400) => d_reaches w h hM e x he1 he2 k1 k2)
 have HNear := Aside0.mk (fun (w : World) (v : Value) (h : Nm w v M) => d_near w h hM e n D he1 he2 (by omega) (by omega) (by omega) (by omega))
 obtain ⟨L, hL⟩ : ∃ z, (Num.wordsN M).length = z := ⟨_, rfl⟩
 have hL0 : 0 < L := by
  rw [← hL]
  rcases Nat.eq_zero_or_pos (Num.wordsN M).length with z | z
  ·exfalso
   have : M = 0 := by rw [← Num.wordsN_val M, List.eq_nil_of_length_eq_zero z]; rfl
   omega
  ·exact z
 have HL := Aside0.mk hL
 have g1 : ((L : Int) == 0) = false := by rw [beq_eq_false_iff_ne]; omega
 have g2 : ¬ (L : Int) = 0 := by omega
 have g3 : ¬ L = 0 := by omega
 have d1 := decide_eq_false (show ¬ n < 1 by omega)
 have d2 := decide_eq_false (show ¬ 40 < n by omega)
 have HN := Aside0.mk (show 1 ≤ n ∧ n ≤ 40 by omega)
 obtain ⟨T, hT⟩ : ∃ z, Num.textN (nearN M e (D - n)) = z := ⟨_, rfl⟩
 have hTT : (⟨(Num.textN (nearN M e (D - n))).toArray⟩ : ByteArray) = bs T := by rw [hT]; rfl
 rw [hTT] at HNear
 unfold repT repX
 rw [hT]
 obtain ⟨t, ht⟩ : ∃ z, bs T = z := ⟨_, rfl⟩
 rw [ht] at HNear
 have htl : T.length = t.size := by rw [← ht, bs_size]
 have htk : bs (T.take n.toNat) = if n < T.length then t.extract 0 n.toNat else t := by
  split
  ·rw [← ht, bs_to]
  ·rw [← ht, List.take_of_length_le (by omega)]
 rw [htk, htl]
 obtain ⟨u, hu⟩ : ∃ z : ByteArray, (if n < (t.size : Nat) then t.extract 0 n.toNat else t) = z := ⟨_, rfl⟩
 obtain ⟨x5, hx5⟩ : ∃ z : Int, (if n < (t.size : Nat) then D + 1 else D) = z := ⟨_, rfl⟩
 rw [hu, hx5]
 have HU := Aside0.mk hu
 have HXX := Aside0.mk hx5
 clear hu hx5 htk htl ht hT hTT hL hL0 hb0 hb53 fM hM hz hD he1 he2 hs3b hD1 hD2 h0 h1 ha hf haa hneg hMM hee hbb hs1 hs2 hx0
 go_enter Tryz.func13, Tryz.ntmps13
 go_upto_region 1 with (fail)
 obtain ⟨g, hg⟩ : ∃ g, w.heap.size = g := ⟨_, rfl⟩
 generalize hW : w.alloc _ = W1
 have BK := Aside0.mk (show W1.heap[g]? = some (.cells #[.string ⟨#[]⟩, .int .i64 0, .bool false] 28 (0, 0)) by rw [← hW, ← hg]; exact blk_new _ _)
 have HB := Aside0.mk (show Below w.heap.size w W1 by rw [← hW]; exact below_alloc (Below.refl _ _) _)
 have GE := Aside0.mk (show w.heap.size ≤ g by omega)
 clear hW
 rw [hg]
 clear hg
 go_wp2_with (first | (go_at_call 36; (with_reducible refine (HS.out _).mono ?_); rintro e w' ⟨v, rfl, hv, hb⟩; obtain ⟨A, c, hva, -, -, -⟩ := hv.open; rw [HL.out] at hva; subst hva; have HV := Aside0.mk hv; clear hv; have n0_ := Aside0.mk (below_step HB.out hb); have n1_ := Aside0.mk (blk_below BK.out hb); clear HB BK; have HB := n0_; have BK := n1_; clear n0_ n1_; clear hb) | (go_at_call 38; (with_reducible refine (HBits.out _ _ HV.out).mono ?_); rintro e w'' ⟨rfl, hb⟩; have n3_ := Aside0.mk (HV.out.below hb); clear HV; have HV := n3_; clear n3_; have n0_ := Aside0.mk (below_step HB.out hb); have n1_ := Aside0.mk (blk_below BK.out hb); clear HB BK; have HB := n0_; have BK := n1_; clear n0_ n1_; clear hb))
 clear v1 v2 v3 v4 v5 v6 v7 v8 hs3 HS HBits
 go_loopg [10] (D - x0).toNat (fun kq v10 wr => ∃ x : Int, v10 = .int .i64 x ∧ Aside0 (-400 ≤ x ∧ x ≤ 400 ∧ -400 ≤ x ∧ (D - x).toNat = kq) ∧ Aside0 (Nm wr (.slice A L c) M) ∧ Aside0 (Below w.heap.size w wr) ∧ Aside0 (wr.heap[g]? = some (.cells #[.string ⟨#[]⟩, .int .i64 0, .bool false] 28 (0, 0))))
 case atStart => exact ⟨x0, rfl, ⟨by have := HX0.out; omega⟩, HV, HB, BK⟩
 case round =>
  clear HV HB BK
  obtain ⟨x, rfl, HQ, HV, HB, BK⟩ := hrel
  have C1 := Aside0.mk (fun wq (h : Nm wq (.slice A L c) M) => HRch.out wq _ h x (by have := HQ.out; omega) (by have := HQ.out; omega))
  cases hx : rch M e x with
  | true =>
   have hlt : x < D := HDD.out.lt hx
   obtain ⟨j, rfl⟩ : ∃ j, gk = j + 1 := ⟨gk - 1, by have := HQ.out; omega⟩
   have HQ2 := Aside0.mk (show -400 ≤ x + 1 ∧ x + 1 ≤ 400 ∧ -400 ≤ x + 1 ∧ (D - (x + 1)).toNat = j by have := HQ.out; have := HDB.out; omega)
   have y1 : wrap64 (x + 1) = x + 1 := by have := HQ2.out; rw [i64_id (by omega) (by omega)]
   have y2 : IntKind.i64.wrap (x + 1) = x + 1 := (i64_w _).trans y1
   rw [hx] at C1
   clear hx hlt
   go_wp2_with (go_at_call 39; (with_reducible refine (C1.out _ HV.out).mono ?_); rintro q w5 ⟨rfl, hb⟩; have n3_ := Aside0.mk (HV.out.below hb); clear HV; have HV := n3_; clear n3_; have n0_ := Aside0.mk (below_step HB.out hb); have n1_ := Aside0.mk (blk_below BK.out hb); clear HB BK; have HB := n0_; have BK := n1_; clear n0_ n1_; clear hb)
   go_roundg j
   case measure => omega
   case rel => exact ⟨x + 1, by first | rfl | (rw [y1]) | (rw [y2]), HQ2, HV, HB, BK⟩
  | false =>
   have hge : D ≤ x := HDD.out.ge hx
   have HG := Aside0.mk (show -400 ≤ x ∧ x ≤ 400 ∧ D ≤ x by have := HQ.out; omega)
   rw [hx] at C1
   clear hx hge
   go_wp2_with (go_at_call 39; (with_reducible refine (C1.out _ HV.out).mono ?_); rintro q w5 ⟨rfl, hb⟩; have n3_ := Aside0.mk (HV.out.below hb); clear HV; have HV := n3_; clear n3_; have n0_ := Aside0.mk (below_step HB.out hb); have n1_ := Aside0.mk (blk_below BK.out hb); clear HB BK; have HB := n0_; have BK := n1_; clear n0_ n1_; clear hb)
   go_loopg [10] (x - D).toNat (fun kq v10 wr => ∃ x : Int, v10 = .int .i64 x ∧ Aside0 (-400 ≤ x ∧ x ≤ 400 ∧ D ≤ x ∧ (x - D).toNat = kq) ∧ Aside0 (Nm wr (.slice A L c) M) ∧ Aside0 (Below w.heap.size w wr) ∧ Aside0 (wr.heap[g]? = some (.cells #[.string ⟨#[]⟩, .int .i64 0, .bool false] 28 (0, 0))))
   case atStart => exact ⟨x, rfl, ⟨by have := HG.out; omega⟩, HV, HB, BK⟩
   case round =>
    clear HV HB BK HQ HG C1
    obtain ⟨x2, rfl, HQ, HV, HB, BK⟩ := hrel
    have C2 := Aside0.mk (fun wq (h : Nm wq (.slice A L c) M) => HRch.out wq _ h (x2 - 1) (by have := HQ.out; have := HDB.out; omega) (by have := HQ.out; omega))
    obtain ⟨x3, hx3⟩ : ∃ z, x2 - 1 = z := ⟨_, rfl⟩
    have y1 : wrap64 (x2 - 1) = x3 := by have := HQ.out; rw [i64_id (by omega) (by omega)]; exact hx3
    have y2 : IntKind.i64.wrap (x2 - 1) = x3 := (i64_w _).trans y1
    rw [hx3] at C2
    cases hx : rch M e x3 with
    | false =>
     have hge : D ≤ x3 := HDD.out.ge hx
     obtain ⟨j, rfl⟩ : ∃ j, gk = j + 1 := ⟨gk - 1, by have := HQ.out; omega⟩
     have HQ2 := Aside0.mk (show -400 ≤ x3 ∧ x3 ≤ 400 ∧ D ≤ x3 ∧ (x3 - D).toNat = j by have := HQ.out; have := HDB.out; omega)
     rw [hx] at C2
     have hx4 := Aside0.mk hx3
     clear hx hge hx3
     go_wp2_with (go_at_call 39; (with_reducible refine (C2.out _ HV.out).mono ?_); rintro q w5 ⟨rfl, hb⟩; have n3_ := Aside0.mk (HV.out.below hb); clear HV; have HV := n3_; clear n3_; have n0_ := Aside0.mk (below_step HB.out hb); have n1_ := Aside0.mk (blk_below BK.out hb); clear HB BK; have HB := n0_; have BK := n1_; clear n0_ n1_; clear hb)
     go_roundg j
     case measure => omega
     case rel => exact ⟨x3, by first | rfl | (rw [y1]) | (rw [y2]), HQ2, HV, HB, BK⟩
    | true =>
     have hlt : x3 < D := HDD.out.lt hx
     have hx2 : x2 = D := by have := HQ.out; omega
     rw [hx] at C2
     subst hx2
     have hx4 := Aside0.mk hx3
     clear hx hlt hx3
     by_cases hn : n < (t.size : Nat)
     ·have e1 := decide_eq_true hn
      have e2 : (0 : Int) ≤ n := by have := HN.out; omega
      have e3 : n ≤ (t.size : Nat) := by omega
      have hu := HU.out
      have hx5 := HXX.out
      rw [if_pos hn] at hu hx5
      have z1 : wrap64 (x2 + 1) = x5 := by have := HQ.out; rw [i64_id (by omega) (by omega)]; exact hx5
      have z2 : IntKind.i64.wrap (x2 + 1) = x5 := (i64_w _).trans z1
      clear hn hx5
      go_wp2_with (first | (go_at_call 39; (with_reducible refine (C2.out _ HV.out).mono ?_); rintro q w5 ⟨rfl, hb⟩; have n3_ := Aside0.mk (HV.out.below hb); clear HV; have HV := n3_; clear n3_; have n0_ := Aside0.mk (below_step HB.out hb); have n1_ := Aside0.mk (blk_below BK.out hb); clear HB BK; have HB := n0_; have BK := n1_; clear n0_ n1_; clear hb) | (go_at_call 40; (with_reducible refine (HNear.out _ _ HV.out).mono ?_); rintro q w6 ⟨rfl, hb⟩; have n0_ := Aside0.mk (below_step HB.out hb); have n1_ := Aside0.mk (blk_below BK.out hb); clear HB BK; have HB := n0_; have BK := n1_; clear n0_ n1_; have z0 := (blk_cell BK.out 0).trans (show _ = some (Value.string ⟨#[]⟩) from rfl); have z1 := (blk_cell BK.out 1).trans (show _ = some (Value.int .i64 0) from rfl); have z2 := (blk_cell BK.out 2).trans (show _ = some (Value.bool false) from rfl); have f0 := blk_frozen BK.out 0; have f1 := blk_frozen BK.out 1; have f2 := blk_frozen BK.out 2; clear hb))
      refine bodyPost_ret (res_row_tmp rfl _ _ g 28 #[.string u, .int .i64 x5, .bool neg] (0, 0) _ rfl (by refine blk_put (cs := #[.string u, .int .i64 x5, .bool false]) ?_ 2 _ rfl; refine blk_put (cs := #[.string u, .int .i64 0, .bool false]) ?_ 1 _ rfl; refine blk_put (cs := #[.string ⟨#[]⟩, .int .i64 0, .bool false]) ?_ 0 _ rfl; exact BK.out) Tryz.underlying28 rfl (by kernel_rfl)) rfl ?_
      exact ⟨rfl, below_set (below_set (below_set HB.out GE.out) GE.out) GE.out⟩
     ·have e1 := decide_eq_false hn
      have hu := HU.out
      have hx5 := HXX.out
      rw [if_neg hn] at hu hx5
      subst hu hx5
      clear hn
      go_wp2_with (first | (go_at_call 39; (with_reducible refine (C2.out _ HV.out).mono ?_); rintro q w5 ⟨rfl, hb⟩; have n3_ := Aside0.mk (HV.out.below hb); clear HV; have HV := n3_; clear n3_; have n0_ := Aside0.mk (below_step HB.out hb); have n1_ := Aside0.mk (blk_below BK.out hb); clear HB BK; have HB := n0_; have BK := n1_; clear n0_ n1_; clear hb) | (go_at_call 40; (with_reducible refine (HNear.out _ _ HV.out).mono ?_); rintro q w6 ⟨rfl, hb⟩; have n0_ := Aside0.mk (below_step HB.out hb); have n1_ := Aside0.mk (blk_below BK.out hb); clear HB BK; have HB := n0_; have BK := n1_; clear n0_ n1_; have z0 := (blk_cell BK.out 0).trans (show _ = some (Value.string ⟨#[]⟩) from rfl); have z1 := (blk_cell BK.out 1).trans (show _ = some (Value.int .i64 0) from rfl); have z2 := (blk_cell BK.out 2).trans (show _ = some (Value.bool false) from rfl); have f0 := blk_frozen BK.out 0; have f1 := blk_frozen BK.out 1; have f2 := blk_frozen BK.out 2; clear hb))
      refine bodyPost_ret (res_row_tmp rfl _ _ g 28 #[.string t, .int .i64 x2, .bool neg] (0, 0) _ rfl (by refine blk_put (cs := #[.string t, .int .i64 x2, .bool false]) ?_ 2 _ rfl; refine blk_put (cs := #[.string t, .int .i64 0, .bool false]) ?_ 1 _ rfl; refine blk_put (cs := #[.string ⟨#[]⟩, .int .i64 0, .bool false]) ?_ 0 _ rfl; exact BK.out) Tryz.underlying28 rfl (by kernel_rfl)) rfl ?_
      exact ⟨rfl, below_set (below_set (below_set HB.out GE.out) GE.out) GE.out⟩
end Go.Proofs.YtdoeigngpemcgaaGreatDoor.Dec
namespace Go.Flt
open Go.Proofs.YtdoeigngpemcgaaGreatDoor Go.Proofs.YtdoeigngpemcgaaGreatDoor.Dec
open Classical in
/-- how many digits of m times 2^e stand ahead of the point -/
noncomputable def dex (m : Nat) (e : Int) : Int := if h : ∃ D, Dex m e D then Classical.choose h else 0
theorem dex_is {m : Nat} {e : Int} (hm : 0 < m) (hm2 : m < 2 ^ 53) (he : -1074 ≤ e) (he2 : e ≤ 971) : Dex m e (dex m e) := by
 obtain ⟨D, hD, _⟩ := Dex.some hm hm2 he he2
 have h : ∃ D, Dex m e D := ⟨D, hD⟩
 unfold dex
 rw [dif_pos h]
 exact Classical.choose_spec h
theorem dex_eq {m : Nat} {e D : Int} (h : Dex m e D) : dex m e = D := by
 have k : ∃ D, Dex m e D := ⟨D, h⟩
 have h2 : Dex m e (dex m e) := by
  unfold dex
  rw [dif_pos k]
  exact Classical.choose_spec k
 have a := h.lt h2.1
 have b := h2.lt h.1
 omega
noncomputable def repText (a : Nat) (n : Int) : List UInt8 := if fmant a = 0 then List.replicate n.toNat 48 else repT (fmant a) (fpow a) n (dex (fmant a) (fpow a))
noncomputable def repExp (a : Nat) (n : Int) : Int := if fmant a = 0 then 0 else repX (fmant a) (fpow a) n (dex (fmant a) (fpow a))
end Go.Flt
namespace Go.Proofs.YtdoeigngpemcgaaGreatDoor.Dec
open Go.RowKit Go.Flt Go.Read Go.Proofs.YtdoeigngpemcgaaGreatDoor.Pure Go.Proofs.YtdoeigngpemcgaaGreatDoorW.PrintWords Go.Proofs.YtdoeigngpemcgaaGreatDoorW.PrintLast Go.Proofs.YtdoeigngpemcgaaGreatDoorW.PrintMore
theorem rep_dex {a : Nat} (hf : ffin a = true) (hz : fmant a ≠ 0) : Dex (fmant a) (fpow a) (dex (fmant a) (fpow a)) :=
 dex_is (Nat.pos_of_ne_zero hz) (fmant_lt a) (fpow_bound a hf).1 (fpow_bound a hf).2
theorem d_Rep (w : World) (a : Nat) (ha : a < 18446744073709551616) (hf : ffin a = true) (n : Int) (h0 : 1 ≤ n) (h1 : n ≤ 40) : Calls Tryz.prog 13 #[.int .u64 (a : Int), .int .i64 n] w fun e w' => e = .returned (.tuple #[.agg #[.string (bs (repText a n)), .int .i64 (repExp a n), .bool (fneg a)], .int .i64 0]) ∧ Below w.heap.size w w' := by
 unfold repText repExp
 by_cases hz : fmant a = 0
 ·rw [if_pos hz, if_pos hz]
  exact d_Rep_zero w a ha hf hz n h0 h1
 ·rw [if_neg hz, if_neg hz]
  exact d_Rep_main w a ha hf (Nat.pos_of_ne_zero hz) n h0 h1 _ (rep_dex hf hz)
theorem textN_ne (v : Nat) : Num.textN v ≠ [] := Pure.textN_ne v
theorem repText_ne {a : Nat} {n : Int} (h0 : 1 ≤ n) : repText a n ≠ [] := by
 unfold repText
 split
 ·intro h
  have := congrArg List.length h
  rw [List.length_replicate, List.length_nil] at this
  omega
 ·unfold repT
  intro h
  have := congrArg List.length h
  rw [List.length_take, List.length_nil] at this
  have h2 := textN_ne (nearN (fmant a) (fpow a) (dex (fmant a) (fpow a) - n))
  have h3 := List.length_pos_iff.2 h2
  omega
theorem repExp_bound {a : Nat} (hf : ffin a = true) (n : Int) : -335 ≤ repExp a n ∧ repExp a n ≤ 343 := by
 unfold repExp
 split
 ·omega
 ·have hz : fmant a ≠ 0 := by assumption
  have := (rep_dex hf hz).bound (Nat.pos_of_ne_zero hz) (fmant_lt a) (fpow_bound a hf).1 (fpow_bound a hf).2
  unfold repX
  split <;> omega
end Go.Proofs.YtdoeigngpemcgaaGreatDoor.Dec
namespace Go.Proofs.YtdoeigngpemcgaaGreatDoor.Dec
open Go.RowKit Go.Flt Go.Read Go.Proofs.YtdoeigngpemcgaaGreatDoor.PDec Go.Proofs.YtdoeigngpemcgaaGreatDoor.Pure Go.Proofs.YtdoeigngpemcgaaGreatDoorW.PrintWords Go.Proofs.YtdoeigngpemcgaaGreatDoorW.PrintLast Go.Proofs.YtdoeigngpemcgaaGreatDoorW.PrintMore
attribute [local go_sem] max2_int min2_int max_two min_two max_three min_three max_four min_four
set_option linter.unusedVariables false
set_option linter.unusedSimpArgs false
theorem join_nil (l : List (List UInt8)) : Lib.join l [] = l.flatten := by
 unfold Lib.join
 induction l with
 | nil => rfl
 | cons a t ih =>
  cases t with
  | nil => simp [List.intercalate]
  | cons b r =>
   rw [List.flatten_cons, ← ih]
   simp [List.intercalate, List.intersperse]
theorem d_zeros (w : World) (n : Int) (h1 : n ≤ 1000000) : Calls Tryz.prog 53 #[.int .i64 n] w fun e w' => e = .returned (.string (bs (List.replicate n.toNat 48))) ∧ Below w.heap.size w w' := by
 obtain ⟨c, hc⟩ : ∃ c : Int, max n 0 = c := ⟨_, rfl⟩
 have hcb : (if n < 0 then 0 else n) = c := by rw [← hc]; split <;> omega
 have HR := Aside0.mk (fun w => d_Repeat w c (by omega) (by omega))
 rw [show c.toNat = n.toNat by omega] at HR
 obtain ⟨t, ht⟩ : ∃ z, bs (List.replicate n.toNat 48) = z := ⟨_, rfl⟩
 rw [ht] at HR ⊢
 clear ht h1
 have HB := Aside0.mk (Below.refl w.heap.size w)
 go_enter Tryz.func53, Tryz.ntmps53
 go_wp2_with (go_at_call 37; (with_reducible refine (HR.out _).mono ?_); rintro e w' ⟨rfl, hb⟩; have n0_ := Aside0.mk (below_step HB.out hb); clear HB hb; have HB := n0_; clear n0_)
 go_ret
 exact ⟨rfl, HB.out⟩
theorem d_join (w : World) (k c : Nat) (L : List (List UInt8)) (hc : L.length ≤ c) (hk : k < w.heap.size) (hcells : ∀ j l, L[j]? = some l → w.cell? ⟨k, j, none⟩ = some (.string (bs l))) (hL : L.length ≤ 1000) (hF : L.flatten.length ≤ 1000000) :
  Calls Tryz.prog 50 #[.slice (some ⟨k, 0, none⟩) L.length c] w fun e w' => e = .returned (.string (bs L.flatten)) ∧ Below w.heap.size w w' := by
 have hm : (L.map bs).map (fun x => x.data.toList) = L := by
  rw [List.map_map]
  have : ((fun x : ByteArray => x.data.toList) ∘ bs) = id := by
   funext l
   rfl
  rw [this, List.map_id]
 have HJ : Aside0 (Calls Tryz.prog 107 #[.slice (some ⟨k, 0, none⟩) L.length c, .string ⟨#[]⟩] w fun e w' => e = .returned (.string (bs L.flatten)) ∧ Below w.heap.size w w') := ⟨by
  have h := Tryz.strings_Join k 0 c (L.map bs) ⟨#[]⟩ w (by
   intro j x hj
   rw [List.getElem?_map] at hj
   obtain ⟨l, hl, rfl⟩ := Option.map_eq_some_iff.1 hj
   rw [Nat.zero_add]
   exact hcells j l hl) hk (by rw [List.length_map]; omega) (by rw [List.length_map]; exact hc) (by rw [hm]; show (Lib.join L []).length ≤ _; rw [join_nil]; omega)
  rw [hm, List.length_map] at h
  have e : (⟨#[]⟩ : ByteArray).data.toList = [] := rfl
  rw [e, join_nil] at h
  exact h⟩
 obtain ⟨t, ht⟩ : ∃ z, bs L.flatten = z := ⟨_, rfl⟩
 obtain ⟨n, hn⟩ : ∃ z, L.length = z := ⟨_, rfl⟩
 rw [ht, hn] at HJ
 rw [ht, hn]
 clear ht hcells hL hF hm hc hn
 go_enter Tryz.func50, Tryz.ntmps50
 go_wp2_with (go_at_call 107; (with_reducible refine HJ.out.mono ?_); rintro e w' ⟨rfl, hb⟩; have n0_ := Aside0.mk hb; clear hb; have HB := n0_; clear n0_)
 go_ret
 exact ⟨rfl, HB.out⟩
theorem d_join3 (W W' : World) (x y z : List UInt8) (h : Below (W.alloc (.cells #[.string (bs x), .string (bs y), .string (bs z)] 9)).heap.size (W.alloc (.cells #[.string (bs x), .string (bs y), .string (bs z)] 9)) W') (hl : x.length + y.length + z.length ≤ 1000000) :
  Calls Tryz.prog 50 #[.slice (some ⟨W.heap.size, 0, none⟩) 3 3] W' fun e w' => e = .returned (.string (bs [x, y, z].flatten)) ∧ Below W'.heap.size W' w' := by
 have hB := blk_below (blk_new W (.cells #[.string (bs x), .string (bs y), .string (bs z)] 9)) h
 refine d_join W' W.heap.size 3 [x, y, z] (by simp) (blk_lt hB) ?_ (by simp) (by simp; omega)
 intro j l hj
 match j, hj with
 | 0, hj => cases hj; exact (blk_cell hB 0).trans rfl
 | 1, hj => cases hj; exact (blk_cell hB 1).trans rfl
 | 2, hj => cases hj; exact (blk_cell hB 2).trans rfl
 | j + 3, hj => cases hj
theorem d_join5 (W W' : World) (x y z u v : List UInt8) (h : Below (W.alloc (.cells #[.string (bs x), .string (bs y), .string (bs z), .string (bs u), .string (bs v)] 9)).heap.size (W.alloc (.cells #[.string (bs x), .string (bs y), .string (bs z), .string (bs u), .string (bs v)] 9)) W') (hl : x.length + y.length + z.length + u.length + v.length ≤ 1000000) :
  Calls Tryz.prog 50 #[.slice (some ⟨W.heap.size, 0, none⟩) 5 5] W' fun e w' => e = .returned (.string (bs [x, y, z, u, v].flatten)) ∧ Below W'.heap.size W' w' := by
 have hB := blk_below (blk_new W (.cells #[.string (bs x), .string (bs y), .string (bs z), .string (bs u), .string (bs v)] 9)) h
 refine d_join W' W.heap.size 5 [x, y, z, u, v] (by simp) (blk_lt hB) ?_ (by simp) (by simp; omega)
 intro j l hj
 match j, hj with
 | 0, hj => cases hj; exact (blk_cell hB 0).trans rfl
 | 1, hj => cases hj; exact (blk_cell hB 1).trans rfl
 | 2, hj => cases hj; exact (blk_cell hB 2).trans rfl
 | 3, hj => cases hj; exact (blk_cell hB 3).trans rfl
 | 4, hj => cases hj; exact (blk_cell hB 4).trans rfl
 | j + 5, hj => cases hj
/-- a text without an exponent -/
def fixedV (d : List UInt8) (e n : Int) : List UInt8 :=
 if e < 1 then [[48, 46], List.replicate (-e).toNat 48, d].flatten else if n ≤ e then [d, List.replicate (e - n).toNat 48, [46]].flatten else [d.take e.toNat, [46], d.drop e.toNat].flatten
set_option maxHeartbeats 8000000 in
set_option maxRecDepth 100000 in
theorem d_fixed (w : World) (d : List UInt8) (e n : Int) (z : Bool) (hd : d.length ≤ 1000) (he : -1000 ≤ e) (he2 : e ≤ 1000) (hn : 0 ≤ n) (hn2 : n ≤ d.length) :
  Calls Tryz.prog 52 #[.string (bs d), .int .i64 e, .int .i64 n, .bool z] w fun x w' => x = .returned (.string (bs (fixedV d e n))) ∧ Below w.heap.size w w' := by
 unfold fixedV
 have HB := Aside0.mk (Below.refl w.heap.size w)
 have hb1 : bs [48, 46] = ⟨#[48, 46]⟩ := rfl
 have hb2 : bs [46] = ⟨#[46]⟩ := rfl
 by_cases h1 : e < 1
 ·have c1 := decide_eq_true h1
  have HZ := Aside0.mk (fun w => d_zeros w (-e) (by omega))
  have w1 : wrap64 (-e) = -e := i64_id (by omega) (by omega)
  have w2 : IntKind.i64.wrap (-e) = -e := (i64_w _).trans w1
  have HJ := Aside0.mk (fun (W W' : World) h => d_join3 W W' [48, 46] (List.replicate (-e).toNat 48) d h (by rw [List.length_replicate]; simp; omega))
  obtain ⟨ne, hne⟩ : ∃ z, -e = z := ⟨_, rfl⟩
  rw [if_pos h1]
  rw [hne] at HZ w1 w2 HJ ⊢
  have w3 : wrap64 (-e) = ne := by rw [hne]; exact w1
  have w4 : IntKind.i64.wrap (-e) = ne := (i64_w _).trans w3
  obtain ⟨s, hs⟩ : ∃ s, bs d = s := ⟨_, rfl⟩
  obtain ⟨r, hr⟩ : ∃ s, bs [[48, 46], List.replicate ne.toNat 48, d].flatten = s := ⟨_, rfl⟩
  obtain ⟨t, ht⟩ : ∃ s, bs (List.replicate ne.toNat 48) = s := ⟨_, rfl⟩
  rw [ht] at HZ
  rw [hb1, hs, ht, hr] at HJ
  rw [hs, hr]
  clear h1 hb1 hb2 hs hr ht hne hd he he2 hn hn2
  go_enter Tryz.func52, Tryz.ntmps52
  go_wp2_with (first | (go_at_call 53; (with_reducible refine (HZ.out _).mono ?_); rintro q w' ⟨rfl, hb⟩; have n0_ := Aside0.mk (below_step HB.out hb); clear HB hb; have HB := n0_; clear n0_) | (go_at_call 50; (refine (HJ.out _ _ (Below.refl _ _)).mono ?_); rintro q w' ⟨rfl, hb⟩; have n0_ := Aside0.mk (below_step (below_alloc HB.out _) hb); clear HB hb; have HB := n0_; clear n0_))
  go_ret
  exact ⟨rfl, HB.out⟩
 have c1 := decide_eq_false h1
 by_cases h2 : n ≤ e
 ·have c2 := decide_eq_true h2
  have HZ := Aside0.mk (fun w => d_zeros w (e - n) (by omega))
  have w1 : wrap64 (e - n) = e - n := i64_id (by omega) (by omega)
  have w2 : IntKind.i64.wrap (e - n) = e - n := (i64_w _).trans w1
  have HJ := Aside0.mk (fun (W W' : World) h => d_join3 W W' d (List.replicate (e - n).toNat 48) [46] h (by rw [List.length_replicate]; simp; omega))
  obtain ⟨ne, hne⟩ : ∃ z, e - n = z := ⟨_, rfl⟩
  rw [if_neg h1, if_pos h2]
  rw [hne] at HZ w1 w2 HJ ⊢
  have w3 : wrap64 (e - n) = ne := by rw [hne]; exact w1
  have w4 : IntKind.i64.wrap (e - n) = ne := (i64_w _).trans w3
  obtain ⟨s, hs⟩ : ∃ s, bs d = s := ⟨_, rfl⟩
  obtain ⟨r, hr⟩ : ∃ s, bs [d, List.replicate ne.toNat 48, [46]].flatten = s := ⟨_, rfl⟩
  obtain ⟨t, ht⟩ : ∃ s, bs (List.replicate ne.toNat 48) = s := ⟨_, rfl⟩
  rw [ht] at HZ
  rw [hb2, hs, ht, hr] at HJ
  rw [hs, hr]
  clear h1 h2 hb1 hb2 hs hr ht hne hd he he2 hn hn2
  go_enter Tryz.func52, Tryz.ntmps52
  go_wp2_with (first | (go_at_call 53; (with_reducible refine (HZ.out _).mono ?_); rintro q w' ⟨rfl, hb⟩; have n0_ := Aside0.mk (below_step HB.out hb); clear HB hb; have HB := n0_; clear n0_) | (go_at_call 50; (refine (HJ.out _ _ (Below.refl _ _)).mono ?_); rintro q w' ⟨rfl, hb⟩; have n0_ := Aside0.mk (below_step (below_alloc HB.out _) hb); clear HB hb; have HB := n0_; clear n0_))
  go_ret
  exact ⟨rfl, HB.out⟩
 ·have c2 := decide_eq_false h2
  rw [if_neg h1, if_neg h2]
  have HJ := Aside0.mk (fun (W W' : World) h => d_join3 W W' (d.take e.toNat) [46] (d.drop e.toNat) h (by rw [List.length_take, List.length_drop]; simp; omega))
  obtain ⟨s, hs⟩ : ∃ s, bs d = s := ⟨_, rfl⟩
  obtain ⟨r, hr⟩ : ∃ s, bs [d.take e.toNat, [46], d.drop e.toNat].flatten = s := ⟨_, rfl⟩
  obtain ⟨t, ht⟩ : ∃ s, bs (d.take e.toNat) = s := ⟨_, rfl⟩
  obtain ⟨u, hu⟩ : ∃ s, bs (d.drop e.toNat) = s := ⟨_, rfl⟩
  have k1 : s.extract 0 e.toNat = t := by rw [← hs, bs_to]; exact ht
  have k2 : s.extract e.toNat s.size = u := by rw [← hs, bs_from]; exact hu
  have k3 : (0 : Int) ≤ e := by omega
  have k4 : e ≤ (s.size : Nat) := by rw [← hs, bs_size]; omega
  rw [hb2, ht, hu, hr] at HJ
  rw [hs, hr]
  clear h1 h2 hb1 hb2 hs hr ht hu hd he he2 hn hn2
  go_enter Tryz.func52, Tryz.ntmps52
  go_upto_region 5 with (fail)
  go_region_held3 (fun w' => Below w.heap.size w w')
   (first | assumption | exact HB.out | exact below_drew (by assumption) | exact below_drew HB.out | exact below_alloc HB.out _ | exact below_drew (below_alloc HB.out _) | exact below_alloc (by assumption) _ | exact below_drew (below_alloc (by assumption) _) | exact Below.trans (by assumption) (hb_.mono (Below.size (by assumption))))
   ((go_at_call 50; (refine (HJ.out _ _ (by repeat (first | exact Below.refl _ _ | apply below_drew))).mono ?_); rintro q w2 ⟨rfl, hb_⟩))
  go_wp2
  go_ret
  exact ⟨rfl, by assumption⟩
end Go.Proofs.YtdoeigngpemcgaaGreatDoor.Dec
namespace Go.Proofs.YtdoeigngpemcgaaGreatDoor.Dec
set_option linter.unusedVariables false
open Go.RowKit Go.Flt Go.Read Go.Proofs.YtdoeigngpemcgaaGreatDoor.Pure Go.Proofs.YtdoeigngpemcgaaGreatDoorW.PrintWords Go.Proofs.YtdoeigngpemcgaaGreatDoorW.PrintLast Go.Proofs.YtdoeigngpemcgaaGreatDoorW.PrintMore
theorem decL_trim (l : List UInt8) : Num.decL 0 (trim0 l) = Num.decL 0 l := by
 induction l with
 | nil => rfl
 | cons c t ih =>
  unfold trim0
  rw [List.dropWhile_cons]
  by_cases h : c = 48
  ·subst h
   exact ih
  ·rw [if_neg (by simpa using h)]
theorem trim_digs {l : List UInt8} (h : Num.digs l = true) : Num.digs (trim0 l) = true := by
 unfold Num.digs at *
 rw [List.all_eq_true] at *
 exact fun x hx => h x ((List.dropWhile_sublist _).mem hx)
theorem trim_len (l : List UInt8) : (trim0 l).length ≤ l.length := (List.dropWhile_sublist _).length_le
theorem trim_pos {l : List UInt8} (h : Num.digs l = true) (h0 : trim0 l ≠ []) : 10 ^ ((trim0 l).length - 1) ≤ Num.decL 0 l := by
 rw [← decL_trim]
 have hd := trim_digs h
 match ht : trim0 l, h0 with
 | c :: t, _ =>
  rw [ht] at hd
  have hc := Num.digs_mem hd c List.mem_cons_self
  have hne : c ≠ 48 := fun e => by
   have : ∀ (l m : List UInt8) (x : UInt8), l.dropWhile (· == 48) = x :: m → x ≠ 48 := by
    intro l
    induction l with
    | nil => intro m x h; cases h
    | cons a b ih =>
     intro m x h
     rw [List.dropWhile_cons] at h
     by_cases k : a = 48
     ·rw [if_pos (by simpa using k)] at h; exact ih m x h
     ·rw [if_neg (by simpa using k)] at h
      cases h
      exact k
   exact this l t c ht e
  have hn : 48 ≠ c.toNat := fun e => hne (UInt8.toNat_inj.1 e.symm)
  show 10 ^ t.length ≤ Num.decL (0 * 10 + (c.toNat - 48)) t
  rw [Num.decL_acc]
  have : 1 * 10 ^ t.length ≤ (0 * 10 + (c.toNat - 48)) * 10 ^ t.length := Nat.mul_le_mul_right _ (by omega)
  omega
theorem d_float (w : World) (neg : Bool) (l : List UInt8) (hd : Num.digs l = true) (hl : l.length ≤ 400) (e : Int) :
  Calls Tryz.prog 31 #[.bool neg, .string (bs l), .int .i64 e] w fun x w' => x = .returned (.int .u64 ((sg neg (flt (Num.decL 0 l) e) : Nat) : Int)) ∧ Below w.heap.size w w' := by
 have ht : bs (trim0 l) = ⟨(Lib.trimLeftB (bs l).data.toList 48).toArray⟩ := rfl
 have htd := trim_digs hd
 have htl := trim_len l
 have hlt : Num.decL 0 l < 10 ^ l.length := Num.decL_lt l (Num.digs_mem hd)
 by_cases h0 : trim0 l = []
 ·have hz : Num.decL 0 l = 0 := by rw [← decL_trim, h0]; rfl
  rw [hz, flt_nil]
  exact d_float_zero w neg (bs l) _ ht e (.inl (by rw [h0]; rfl))
 have hne : bs (trim0 l) ≠ ⟨#[]⟩ := fun h => h0 (by rw [← bs_list (trim0 l), h]; exact bs_list [])
 have hpos := trim_pos hd h0
 have hpp : 0 < 10 ^ ((trim0 l).length - 1) := Nat.pow_pos (by decide)
 obtain ⟨K, hK⟩ : ∃ K, K = 400 := ⟨_, rfl⟩
 by_cases h1 : e < -900
 ·rw [flt_low (k := K) (by omega) (by omega)]
  ·exact d_float_zero w neg (bs l) _ ht e (.inr h1)
  ·have : Num.decL 0 l * 10 ^ K ≤ 10 ^ l.length * 10 ^ K := Nat.mul_le_mul_right _ (by omega)
   rw [← Nat.pow_add] at this
   exact Nat.le_trans this (Nat.pow_le_pow_right (by decide) (by omega))
 by_cases h2 : 400 < e
 ·rw [flt_high (k := K) (by omega) (by omega)]
  ·exact d_float_inf w neg (bs l) _ ht e hne h2
  ·have : 1 * 10 ^ e.toNat ≤ Num.decL 0 l * 10 ^ e.toNat := Nat.mul_le_mul_right _ (by omega)
   have h4 : 10 ^ K ≤ 10 ^ e.toNat := Nat.pow_le_pow_right (by decide) (by omega)
   omega
 have hdl : (bs (trim0 l)).data.toList = trim0 l := rfl
 by_cases h3 : 0 ≤ e
 ·have h := d_float_pos w neg (bs l) _ ht e hne (by rw [hdl]; exact htd) (by rw [hdl]; omega) h3 (by omega)
  rw [hdl, decL_trim] at h
  have hf : flt (Num.decL 0 l) e = mkN (Num.decL 0 l * 10 ^ e.toNat) 0 := by
   unfold flt
   rw [if_neg (by omega), if_pos h3, fl_one (Nat.mul_pos (by omega) (Nat.pow_pos (by decide)))]
  rw [hf]
  exact h
 ·have h := d_float_neg w neg (bs l) _ ht e hne (by rw [hdl]; exact htd) (by rw [hdl]; omega) (by omega) (by omega) _ rfl
  rw [hdl, decL_trim] at h
  have hf := quo_dec (m := Num.decL 0 l) (d := 10 ^ (-e).toNat) (k := Num.bitsN (10 ^ (-e).toNat) + 70) (by omega) (Nat.pow_pos (by decide)) (by omega)
  have hg : flt (Num.decL 0 l) e = fl (Num.decL 0 l) (10 ^ (-e).toNat) := by
   unfold flt
   rw [if_neg (by omega), if_neg h3]
  rw [hg, ← hf, Nat.mul_comm 2]
  exact h
end Go.Proofs.YtdoeigngpemcgaaGreatDoor.Dec
namespace Go.Flt
open Go.Read Go.Proofs.YtdoeigngpemcgaaGreatDoor Go.Proofs.YtdoeigngpemcgaaGreatDoor.Dec
theorem step10 (m : Nat) (e k : Int) : (rhs e (k + 1) = 10 * rhs e k ∧ lhs m e (k + 1) = lhs m e k) ∨ (rhs e (k + 1) = rhs e k ∧ lhs m e k = 10 * lhs m e (k + 1)) := by
 unfold lhs rhs
 rcases Int.lt_or_le k 0 with c | c
 ·right
  rw [show (k + 1).toNat = 0 by omega, show k.toNat = 0 by omega, show (-k).toNat = (-(k + 1)).toNat + 1 by omega]
  refine ⟨rfl, ?_⟩
  rw [Nat.pow_succ, ← Nat.mul_assoc, Nat.mul_comm _ 10, Nat.mul_assoc 10]
 ·left
  rw [show (k + 1).toNat = k.toNat + 1 by omega, show (-(k + 1)).toNat = 0 by omega, show (-k).toNat = 0 by omega]
  refine ⟨?_, rfl⟩
  rw [Nat.pow_succ, Nat.mul_comm _ 10, Nat.mul_assoc]
theorem scale_ge {m c : Nat} {e k : Int} (j : Nat) (h : c * rhs e (k + j) ≤ lhs m e (k + j)) : c * 10 ^ j * rhs e k ≤ lhs m e k := by
 induction j generalizing c with
 | zero => simpa using h
 | succ j ih =>
  have h1 : c * 10 * rhs e (k + j) ≤ lhs m e (k + j) := by
   rw [show k + ((j + 1 : Nat) : Int) = k + j + 1 by omega] at h
   rcases step10 m e (k + j) with ⟨a, b⟩ | ⟨a, b⟩
   ·rw [a, b] at h
    rw [Nat.mul_assoc]
    exact h
   ·rw [a] at h
    rw [b, Nat.mul_right_comm, Nat.mul_comm _ 10]
    exact Nat.mul_le_mul_left _ h
  have := ih h1
  rw [Nat.pow_succ, Nat.mul_comm _ 10, ← Nat.mul_assoc]
  exact this
theorem scale_lt {m c : Nat} {e k : Int} (j : Nat) (h : lhs m e (k + j) < c * rhs e (k + j)) : lhs m e k < c * 10 ^ j * rhs e k := by
 induction j generalizing c with
 | zero => simpa using h
 | succ j ih =>
  have h1 : lhs m e (k + j) < c * 10 * rhs e (k + j) := by
   rw [show k + ((j + 1 : Nat) : Int) = k + j + 1 by omega] at h
   rcases step10 m e (k + j) with ⟨a, b⟩ | ⟨a, b⟩
   ·rw [a, b] at h
    rw [Nat.mul_assoc]
    exact h
   ·rw [a] at h
    rw [b, Nat.mul_right_comm, Nat.mul_comm _ 10]
    omega
  have := ih h1
  rw [Nat.pow_succ, Nat.mul_comm _ 10, ← Nat.mul_assoc]
  exact this
theorem rhs_pos (e k : Int) : 0 < rhs e k := Nat.mul_pos (Nat.pow_pos (by decide)) (Nat.two_pow_pos _)
theorem near_ge {m c : Nat} {e k : Int} (h : c * rhs e k ≤ lhs m e k) : c ≤ nearN m e k := by
 have h1 : c ≤ lhs m e k / rhs e k := (Nat.le_div_iff_mul_le (rhs_pos e k)).2 h
 unfold nearN
 split <;> omega
theorem near_le {m c : Nat} {e k : Int} (h : lhs m e k < c * rhs e k) : nearN m e k ≤ c := by
 have h1 : lhs m e k / rhs e k < c := (Nat.div_lt_iff_lt_mul (rhs_pos e k)).2 h
 unfold nearN
 split <;> omega
theorem near_dex {m : Nat} {e n D : Int} (hD : Dex m e D) (hn : 1 ≤ n) : 10 ^ (n.toNat - 1) ≤ nearN m e (D - n) ∧ nearN m e (D - n) ≤ 10 ^ n.toNat := by
 constructor
 ·apply near_ge
  have h := hD.1
  unfold rch at h
  rw [decide_eq_true_iff] at h
  have := scale_ge (m := m) (c := 1) (e := e) (k := D - n) (n.toNat - 1) (by rw [Nat.one_mul, show D - n + ((n.toNat - 1 : Nat) : Int) = D - 1 by omega]; exact h)
  rw [Nat.one_mul] at this
  exact this
 ·apply near_le
  have h := hD.2
  unfold rch at h
  rw [decide_eq_false_iff_not] at h
  have := scale_lt (m := m) (c := 1) (e := e) (k := D - n) n.toNat (by rw [Nat.one_mul, show D - n + (n.toNat : Int) = D by omega]; omega)
  rw [Nat.one_mul] at this
  exact this
theorem drop_head (l m : List UInt8) (x : UInt8) (h : l.dropWhile (· == 48) = x :: m) : x ≠ 48 := by
 induction l with
 | nil => cases h
 | cons a b ih =>
  rw [List.dropWhile_cons] at h
  by_cases k : a = 48
  ·rw [if_pos (by simpa using k)] at h; exact ih h
  ·rw [if_neg (by simpa using k)] at h
   cases h
   exact k
theorem textN_trim {v : Nat} (h : v ≠ 0) : trim0 (Num.textN v) = Num.textN v := by
 unfold Num.textN
 rw [if_neg h]
 generalize (Num.pcs v).reverse.flatMap Num.dg9 = l
 cases hl : l.dropWhile (· == 48) with
 | nil => rfl
 | cons x m =>
  unfold trim0
  rw [List.dropWhile_cons, if_neg (by simpa using drop_head l m x hl)]
theorem textN_pow {v : Nat} (h : v ≠ 0) : 10 ^ ((Num.textN v).length - 1) ≤ v ∧ v < 10 ^ (Num.textN v).length := by
 have hd := Pure.textN_digs v
 have h1 := trim_pos hd (by rw [textN_trim h]; exact textN_ne v)
 have h2 := Num.decL_lt _ (Num.digs_mem hd)
 rw [textN_trim h, Pure.textN_dec] at h1
 rw [Pure.textN_dec] at h2
 exact ⟨h1, h2⟩
theorem textN_size {v k : Nat} (h1 : 10 ^ k ≤ v) (h2 : v < 10 ^ (k + 1)) : (Num.textN v).length = k + 1 := by
 have hp : 0 < 10 ^ k := Nat.pow_pos (by decide)
 obtain ⟨a, b⟩ := textN_pow (v := v) (by omega)
 have c1 : k < (Num.textN v).length := by
  rcases Nat.lt_or_ge k (Num.textN v).length with c | c
  ·exact c
  ·have := Nat.pow_le_pow_right (show 0 < 10 by decide) c
   omega
 have c2 : (Num.textN v).length - 1 < k + 1 := by
  rcases Nat.lt_or_ge ((Num.textN v).length - 1) (k + 1) with c | c
  ·exact c
  ·have := Nat.pow_le_pow_right (show 0 < 10 by decide) c
   omega
 omega
theorem pow_pred {n : Int} (hn : 1 ≤ n) : ∃ k, n.toNat = k + 1 ∧ n.toNat - 1 = k ∧ (n : Int) = k + 1 := ⟨n.toNat - 1, by omega, rfl, by omega⟩
/-- n digits, or n + 1 of them when it was rounded up to a power of ten -/
theorem near_text {m : Nat} {e n D : Int} (hD : Dex m e D) (hn : 1 ≤ n) :
  ((Num.textN (nearN m e (D - n))).length = n.toNat ∧ nearN m e (D - n) < 10 ^ n.toNat) ∨ ((Num.textN (nearN m e (D - n))).length = n.toNat + 1 ∧ nearN m e (D - n) = 10 ^ n.toNat) := by
 obtain ⟨h1, h2⟩ := near_dex hD hn
 obtain ⟨k, k1, k2, k3⟩ := pow_pred hn
 rw [k2] at h1
 rcases Nat.lt_or_ge (nearN m e (D - n)) (10 ^ n.toNat) with c | c
 ·left
  rw [k1] at c ⊢
  exact ⟨textN_size h1 c, c⟩
 ·right
  have hq : nearN m e (D - n) = 10 ^ n.toNat := Nat.le_antisymm h2 c
  refine ⟨?_, hq⟩
  apply textN_size c
  rw [hq, Nat.pow_succ]
  have : 0 < 10 ^ n.toNat := Nat.pow_pos (by decide)
  omega
theorem repText_size {a : Nat} (hf : ffin a = true) {n : Int} (hn : 1 ≤ n) : (repText a n).length = n.toNat := by
 unfold repText
 split
 ·rw [List.length_replicate]
 ·have hz : fmant a ≠ 0 := by assumption
  unfold repT
  rw [List.length_take]
  rcases near_text (rep_dex hf hz) hn with ⟨h, _⟩ | ⟨h, _⟩ <;> rw [h] <;> omega
end Go.Flt
namespace Go.Flt
/-- how many digits are shown -/
def many (n : Int) : Int := min (max n 1) 17
end Go.Flt
namespace Go.Proofs.YtdoeigngpemcgaaGreatDoor.Dec
open Go.RowKit Go.Flt Go.Read Go.Proofs.YtdoeigngpemcgaaGreatDoor.PDec Go.Proofs.YtdoeigngpemcgaaGreatDoor.Pure Go.Proofs.YtdoeigngpemcgaaGreatDoorW.PrintWords Go.Proofs.YtdoeigngpemcgaaGreatDoorW.PrintLast Go.Proofs.YtdoeigngpemcgaaGreatDoorW.PrintMore
attribute [local go_sem] max2_int min2_int max_two min_two max_three min_three max_four min_four
set_option linter.unusedVariables false
set_option linter.unusedSimpArgs false
/-- the first digit is a zero -/
def zero1 (l : List UInt8) : Bool := l.head? == some 48
/-- Inf, -Inf or NaN -/
def oddV (a : Nat) : List UInt8 := if a = 9218868437227405312 then [73, 110, 102] else if a = 18442240474082181120 then [45, 73, 110, 102] else [78, 97, 78]
/-- what shown makes of what is done with the digits -/
def shownV (a : Nat) (r : List UInt8) : List UInt8 := if ffin a then (if fneg a then 45 :: r else r) else oddV a
theorem head_fact {l : List UInt8} (h : l ≠ []) : ∃ c : Nat, (∀ h, ((bs l)[0]'h).toNat = c) ∧ ((c : Int) == 48) = zero1 l ∧ 0 < (bs l).size := by
 match l, h with
 | x :: t, _ =>
  refine ⟨x.toNat, fun h => rfl, ?_, by rw [bs_size, List.length_cons]; omega⟩
  unfold zero1
  rw [List.head?_cons]
  by_cases k : x = 48
  ·subst k; rfl
  ·have k1 : ((some x : Option UInt8) == some 48) = false := by simpa using k
   rw [k1, beq_eq_false_iff_ne]
   have k2 : x.toNat ≠ 48 := fun e => k (UInt8.toNat_inj.1 e)
   omega
set_option maxHeartbeats 4000000 in
set_option maxRecDepth 100000 in
theorem s_Neg_inf (w : World) : Calls Tryz.prog 106 #[.int .u64 9218868437227405312] w fun e w' => e = .returned (.int .u64 18442240474082181120) ∧ Below w.heap.size w w' := by
 have HN : Aside0 (∀ w, Calls Tryz.prog 59 #[.int .u64 9218868437227405312] w fun e w' => e = .returned (.bool false) ∧ Drawn0 w w') := ⟨fun w => s_isNaN w 9218868437227405312 (by decide)⟩
 have hx : bits .xor .u64 9218868437227405312 9223372036854775808 = 18442240474082181120 := by decide +kernel
 have HB := Aside0.mk (Below.refl w.heap.size w)
 go_enter Tryz.func106, Tryz.ntmps106
 go_wp2_with (go_at_call 59; (with_reducible refine (HN.out _).mono ?_); rintro e w' ⟨rfl, ⟨nd, rfl⟩⟩)
 go_ret
 exact ⟨by first | rfl | rw [hx], by repeat (first | exact HB.out | apply pw_below_drewN)⟩
set_option maxHeartbeats 8000000 in
set_option maxRecDepth 100000 in
theorem d_shown_fixed (w : World) (a : Nat) (ha : a < 18446744073709551616) (hf : ffin a = true) (n : Int) (r : List UInt8) (hr : r.length ≤ 1000000) (w0 : World) (hw0 : Below w0.heap.size w0 w)
  (HF : ∀ w, Below w0.heap.size w0 w → Calls Tryz.prog 52 #[.string (bs (repText a (many n))), .int .i64 (repExp a (many n)), .int .i64 (many n), .bool (zero1 (repText a (many n)))] w fun x w' => x = .returned (.string (bs r)) ∧ Below w.heap.size w w') :
  Calls Tryz.prog 48 #[.int .u64 (a : Int), .int .i64 n, .func (.func 52) #[] #[]] w fun x w' => x = .returned (.string (bs (if fneg a then 45 :: r else r))) ∧ Below w0.heap.size w0 w' := by
 obtain ⟨mx, hm0⟩ : ∃ z, max n 1 = z := ⟨_, rfl⟩
 obtain ⟨m, hm⟩ : ∃ z, min mx 17 = z := ⟨_, rfl⟩
 have hmm : many n = m := by unfold many; rw [hm0, hm]
 have hm1 : (if n < 1 then 1 else n) = mx := by rw [← hm0]; split <;> omega
 have hm2 : (if 17 < mx then 17 else mx) = m := by rw [← hm]; split <;> omega
 rw [hmm] at HF
 have HR := Aside0.mk (fun w => d_Rep w a ha hf m (by omega) (by omega))
 obtain ⟨c0, hc1, hc2, hc3⟩ := head_fact (repText_ne (a := a) (n := m) (by omega))
 obtain ⟨t, ht⟩ : ∃ z, bs (repText a m) = z := ⟨_, rfl⟩
 have hc4 : decide ((c0 : Int) = 48) = zero1 (repText a m) := by rw [← hc2]; exact (Bool.beq_eq_decide_eq _ _).symm
 obtain ⟨zf, hzf⟩ : ∃ z, zero1 (repText a m) = z := ⟨_, rfl⟩
 obtain ⟨x, hx⟩ : ∃ z, repExp a m = z := ⟨_, rfl⟩
 obtain ⟨aa, haa⟩ : ∃ z : Int, (a : Int) = z := ⟨_, rfl⟩
 obtain ⟨neg, hneg⟩ : ∃ z, fneg a = z := ⟨_, rfl⟩
 obtain ⟨u, hu⟩ : ∃ z, bs r = z := ⟨_, rfl⟩
 have hcat : ⟨#[45]⟩ ++ u = bs (45 :: r) := by rw [← hu]; apply ByteArray.ext; simp [bs]
 have hsz : ¬ 9223372036854775807 < 1 + u.size := by rw [← hu, bs_size]; omega
 rw [ht, hx, hzf, hu] at HF
 rw [ht, hx, haa, hneg] at HR
 rw [ht] at hc1 hc3
 rw [hzf] at hc2 hc4
 have hc5 : (0 : Int) < (t.size : Nat) := by omega
 rw [haa, hneg]
 have HFF := Aside0.mk HF
 have HB := Aside0.mk hw0
 obtain ⟨v, hv⟩ : ∃ z, bs (45 :: r) = z := ⟨_, rfl⟩
 rw [hv] at hcat
 have hres : ∀ b : Bool, bs (if b then 45 :: r else r) = if b then v else u := fun b => by cases b; exact hu; exact hv
 rw [hres]
 have HH := Aside0.mk (fun (w1 w2 : World) (h : Below w1.heap.size w1 w2) (k : Below w0.heap.size w0 w1) => below_step k h)
 clear HF hw0 ht hx hzf hu haa hneg hv hres ha hf hmm hr
 cases neg with
 | false =>
  go_enter Tryz.func48, Tryz.ntmps48
  go_upto_region 10 with (go_at_call 13; (with_reducible refine (HR.out _).mono ?_); rintro q w' ⟨rfl, hb⟩; have n0_ := Aside0.mk (HH.out _ _ hb HB.out); clear HB hb; have HB := n0_; clear n0_)
  obtain ⟨g, hg⟩ : ∃ g, w'.heap.size = g := ⟨_, rfl⟩
  generalize hW : w'.alloc (Obj.cells #[Value.string t, Value.int .i64 x, Value.bool false] 28) = W1
  have BK := Aside0.mk (show W1.heap[g]? = some (.cells #[.string t, .int .i64 x, .bool false] 28 (0, 0)) by rw [← hW, ← hg]; exact blk_new _ _)
  have n0_ := Aside0.mk (show Below w0.heap.size w0 W1 by rw [← hW]; exact below_alloc HB.out _)
  clear HB hW
  have HB := n0_
  clear n0_
  rw [hg]
  clear hg
  have z0 := (blk_cell BK.out 0).trans (show _ = some (Value.string t) from rfl)
  have z1 := (blk_cell BK.out 1).trans (show _ = some (Value.int .i64 x) from rfl)
  have z2 := (blk_cell BK.out 2).trans (show _ = some (Value.bool false) from rfl)
  go_region_held3 (fun w' => w'.cell? ⟨g, 0, none⟩ = some (.string t) ∧ w'.cell? ⟨g, 1, none⟩ = some (.int .i64 x) ∧ w'.cell? ⟨g, 2, none⟩ = some (.bool false) ∧ Below w0.heap.size w0 w')
   (((try go_split_ands); refine ⟨?_, ?_, ?_, ?_⟩ <;> first
    | assumption
    | exact HB.out
    | exact pw_cell_below hb_ (by assumption)
    | exact pw_cell_below (below_drew (Below.refl _ _)) (by assumption)
    | exact below_drew (by assumption)
    | exact below_drew HB.out
    | exact Below.trans (by assumption) (hb_.mono (Below.size (by assumption)))))
   ((go_at_call 52; go_split_ands; (refine (HFF.out _ (by assumption)).mono ?_); rintro q w2 ⟨rfl, hb_⟩))
  (try go_split_ands)
  go_wp2
  go_ret
  exact ⟨rfl, by assumption⟩
 | true =>
  go_enter Tryz.func48, Tryz.ntmps48
  go_upto_region 10 with (go_at_call 13; (with_reducible refine (HR.out _).mono ?_); rintro q w' ⟨rfl, hb⟩; have n0_ := Aside0.mk (HH.out _ _ hb HB.out); clear HB hb; have HB := n0_; clear n0_)
  obtain ⟨g, hg⟩ : ∃ g, w'.heap.size = g := ⟨_, rfl⟩
  generalize hW : w'.alloc (Obj.cells #[Value.string t, Value.int .i64 x, Value.bool true] 28) = W1
  have BK := Aside0.mk (show W1.heap[g]? = some (.cells #[.string t, .int .i64 x, .bool true] 28 (0, 0)) by rw [← hW, ← hg]; exact blk_new _ _)
  have n0_ := Aside0.mk (show Below w0.heap.size w0 W1 by rw [← hW]; exact below_alloc HB.out _)
  clear HB hW
  have HB := n0_
  clear n0_
  rw [hg]
  clear hg
  have z0 := (blk_cell BK.out 0).trans (show _ = some (Value.string t) from rfl)
  have z1 := (blk_cell BK.out 1).trans (show _ = some (Value.int .i64 x) from rfl)
  have z2 := (blk_cell BK.out 2).trans (show _ = some (Value.bool true) from rfl)
  go_region_held3 (fun w' => w'.cell? ⟨g, 0, none⟩ = some (.string t) ∧ w'.cell? ⟨g, 1, none⟩ = some (.int .i64 x) ∧ w'.cell? ⟨g, 2, none⟩ = some (.bool true) ∧ Below w0.heap.size w0 w')
   (((try go_split_ands); refine ⟨?_, ?_, ?_, ?_⟩ <;> first
    | assumption
    | exact HB.out
    | exact pw_cell_below hb_ (by assumption)
    | exact pw_cell_below (below_drew (Below.refl _ _)) (by assumption)
    | exact below_drew (by assumption)
    | exact below_drew HB.out
    | exact Below.trans (by assumption) (hb_.mono (Below.size (by assumption)))))
   ((go_at_call 52; go_split_ands; (refine (HFF.out _ (by assumption)).mono ?_); rintro q w2 ⟨rfl, hb_⟩))
  (try go_split_ands)
  go_wp2
  go_ret
  exact ⟨rfl, by assumption⟩
set_option maxHeartbeats 8000000 in
set_option maxRecDepth 100000 in
theorem d_shown_science (w : World) (a : Nat) (ha : a < 18446744073709551616) (hf : ffin a = true) (n : Int) (r : List UInt8) (hr : r.length ≤ 1000000) (w0 : World) (hw0 : Below w0.heap.size w0 w)
  (HF : ∀ w, Below w0.heap.size w0 w → Calls Tryz.prog 49 #[.string (bs (repText a (many n))), .int .i64 (repExp a (many n)), .int .i64 (many n), .bool (zero1 (repText a (many n)))] w fun x w' => x = .returned (.string (bs r)) ∧ Below w.heap.size w w') :
  Calls Tryz.prog 48 #[.int .u64 (a : Int), .int .i64 n, .func (.func 49) #[] #[]] w fun x w' => x = .returned (.string (bs (if fneg a then 45 :: r else r))) ∧ Below w0.heap.size w0 w' := by
 obtain ⟨mx, hm0⟩ : ∃ z, max n 1 = z := ⟨_, rfl⟩
 obtain ⟨m, hm⟩ : ∃ z, min mx 17 = z := ⟨_, rfl⟩
 have hmm : many n = m := by unfold many; rw [hm0, hm]
 have hm1 : (if n < 1 then 1 else n) = mx := by rw [← hm0]; split <;> omega
 have hm2 : (if 17 < mx then 17 else mx) = m := by rw [← hm]; split <;> omega
 rw [hmm] at HF
 have HR := Aside0.mk (fun w => d_Rep w a ha hf m (by omega) (by omega))
 obtain ⟨c0, hc1, hc2, hc3⟩ := head_fact (repText_ne (a := a) (n := m) (by omega))
 obtain ⟨t, ht⟩ : ∃ z, bs (repText a m) = z := ⟨_, rfl⟩
 have hc4 : decide ((c0 : Int) = 48) = zero1 (repText a m) := by rw [← hc2]; exact (Bool.beq_eq_decide_eq _ _).symm
 obtain ⟨zf, hzf⟩ : ∃ z, zero1 (repText a m) = z := ⟨_, rfl⟩
 obtain ⟨x, hx⟩ : ∃ z, repExp a m = z := ⟨_, rfl⟩
 obtain ⟨aa, haa⟩ : ∃ z : Int, (a : Int) = z := ⟨_, rfl⟩
 obtain ⟨neg, hneg⟩ : ∃ z, fneg a = z := ⟨_, rfl⟩
 obtain ⟨u, hu⟩ : ∃ z, bs r = z := ⟨_, rfl⟩
 have hcat : ⟨#[45]⟩ ++ u = bs (45 :: r) := by rw [← hu]; apply ByteArray.ext; simp [bs]
 have hsz : ¬ 9223372036854775807 < 1 + u.size := by rw [← hu, bs_size]; omega
 rw [ht, hx, hzf, hu] at HF
 rw [ht, hx, haa, hneg] at HR
 rw [ht] at hc1 hc3
 rw [hzf] at hc2 hc4
 have hc5 : (0 : Int) < (t.size : Nat) := by omega
 rw [haa, hneg]
 have HFF := Aside0.mk HF
 have HB := Aside0.mk hw0
 obtain ⟨v, hv⟩ : ∃ z, bs (45 :: r) = z := ⟨_, rfl⟩
 rw [hv] at hcat
 have hres : ∀ b : Bool, bs (if b then 45 :: r else r) = if b then v else u := fun b => by cases b; exact hu; exact hv
 rw [hres]
 have HH := Aside0.mk (fun (w1 w2 : World) (h : Below w1.heap.size w1 w2) (k : Below w0.heap.size w0 w1) => below_step k h)
 clear HF hw0 ht hx hzf hu haa hneg hv hres ha hf hmm hr
 cases neg with
 | false =>
  go_enter Tryz.func48, Tryz.ntmps48
  go_upto_region 10 with (go_at_call 13; (with_reducible refine (HR.out _).mono ?_); rintro q w' ⟨rfl, hb⟩; have n0_ := Aside0.mk (HH.out _ _ hb HB.out); clear HB hb; have HB := n0_; clear n0_)
  obtain ⟨g, hg⟩ : ∃ g, w'.heap.size = g := ⟨_, rfl⟩
  generalize hW : w'.alloc (Obj.cells #[Value.string t, Value.int .i64 x, Value.bool false] 28) = W1
  have BK := Aside0.mk (show W1.heap[g]? = some (.cells #[.string t, .int .i64 x, .bool false] 28 (0, 0)) by rw [← hW, ← hg]; exact blk_new _ _)
  have n0_ := Aside0.mk (show Below w0.heap.size w0 W1 by rw [← hW]; exact below_alloc HB.out _)
  clear HB hW
  have HB := n0_
  clear n0_
  rw [hg]
  clear hg
  have z0 := (blk_cell BK.out 0).trans (show _ = some (Value.string t) from rfl)
  have z1 := (blk_cell BK.out 1).trans (show _ = some (Value.int .i64 x) from rfl)
  have z2 := (blk_cell BK.out 2).trans (show _ = some (Value.bool false) from rfl)
  go_region_held3 (fun w' => w'.cell? ⟨g, 0, none⟩ = some (.string t) ∧ w'.cell? ⟨g, 1, none⟩ = some (.int .i64 x) ∧ w'.cell? ⟨g, 2, none⟩ = some (.bool false) ∧ Below w0.heap.size w0 w')
   (((try go_split_ands); refine ⟨?_, ?_, ?_, ?_⟩ <;> first
    | assumption
    | exact HB.out
    | exact pw_cell_below hb_ (by assumption)
    | exact pw_cell_below (below_drew (Below.refl _ _)) (by assumption)
    | exact below_drew (by assumption)
    | exact below_drew HB.out
    | exact Below.trans (by assumption) (hb_.mono (Below.size (by assumption)))))
   ((go_at_call 49; go_split_ands; (refine (HFF.out _ (by assumption)).mono ?_); rintro q w2 ⟨rfl, hb_⟩))
  (try go_split_ands)
  go_wp2
  go_ret
  exact ⟨rfl, by assumption⟩
 | true =>
  go_enter Tryz.func48, Tryz.ntmps48
  go_upto_region 10 with (go_at_call 13; (with_reducible refine (HR.out _).mono ?_); rintro q w' ⟨rfl, hb⟩; have n0_ := Aside0.mk (HH.out _ _ hb HB.out); clear HB hb; have HB := n0_; clear n0_)
  obtain ⟨g, hg⟩ : ∃ g, w'.heap.size = g := ⟨_, rfl⟩
  generalize hW : w'.alloc (Obj.cells #[Value.string t, Value.int .i64 x, Value.bool true] 28) = W1
  have BK := Aside0.mk (show W1.heap[g]? = some (.cells #[.string t, .int .i64 x, .bool true] 28 (0, 0)) by rw [← hW, ← hg]; exact blk_new _ _)
  have n0_ := Aside0.mk (show Below w0.heap.size w0 W1 by rw [← hW]; exact below_alloc HB.out _)
  clear HB hW
  have HB := n0_
  clear n0_
  rw [hg]
  clear hg
  have z0 := (blk_cell BK.out 0).trans (show _ = some (Value.string t) from rfl)
  have z1 := (blk_cell BK.out 1).trans (show _ = some (Value.int .i64 x) from rfl)
  have z2 := (blk_cell BK.out 2).trans (show _ = some (Value.bool true) from rfl)
  go_region_held3 (fun w' => w'.cell? ⟨g, 0, none⟩ = some (.string t) ∧ w'.cell? ⟨g, 1, none⟩ = some (.int .i64 x) ∧ w'.cell? ⟨g, 2, none⟩ = some (.bool true) ∧ Below w0.heap.size w0 w')
   (((try go_split_ands); refine ⟨?_, ?_, ?_, ?_⟩ <;> first
    | assumption
    | exact HB.out
    | exact pw_cell_below hb_ (by assumption)
    | exact pw_cell_below (below_drew (Below.refl _ _)) (by assumption)
    | exact below_drew (by assumption)
    | exact below_drew HB.out
    | exact Below.trans (by assumption) (hb_.mono (Below.size (by assumption)))))
   ((go_at_call 49; go_split_ands; (refine (HFF.out _ (by assumption)).mono ?_); rintro q w2 ⟨rfl, hb_⟩))
  (try go_split_ands)
  go_wp2
  go_ret
  exact ⟨rfl, by assumption⟩
set_option maxHeartbeats 8000000 in
set_option maxRecDepth 100000 in
theorem d_shown_odd (w : World) (a : Nat) (ha : a < 18446744073709551616) (hf : ffin a = false) (n : Int) (F : Nat) :
  Calls Tryz.prog 48 #[.int .u64 (a : Int), .int .i64 n, .func (.func F) #[] #[]] w fun x w' => x = .returned (.string (bs (oddV a))) ∧ Below w.heap.size w w' := by
 obtain ⟨mx, hm0⟩ : ∃ z, max n 1 = z := ⟨_, rfl⟩
 obtain ⟨m, hm⟩ : ∃ z, min mx 17 = z := ⟨_, rfl⟩
 have hm1 : (if n < 1 then 1 else n) = mx := by rw [← hm0]; split <;> omega
 have hm2 : (if 17 < mx then 17 else mx) = m := by rw [← hm]; split <;> omega
 have HR := Aside0.mk (fun w => d_Rep_bad w a ha m (.inr (.inr hf)))
 have HN := Aside0.mk (fun w => s_Neg_inf w)
 have HB := Aside0.mk (Below.refl w.heap.size w)
 obtain ⟨aa, haa⟩ : ∃ z : Int, (a : Int) = z := ⟨_, rfl⟩
 rw [haa] at HR ⊢
 unfold oddV
 by_cases h1 : a = 9218868437227405312
 ·have c1 : aa = 9218868437227405312 := by omega
  rw [if_pos h1]
  have hb : bs [73, 110, 102] = ⟨#[73, 110, 102]⟩ := rfl
  rw [hb]
  subst c1
  clear ha hf h1 haa hb
  go_enter Tryz.func48, Tryz.ntmps48
  go_wp2_with (go_at_call 13; (with_reducible refine (HR.out _).mono ?_); rintro q w' ⟨rfl, hb⟩; have n0_ := Aside0.mk (below_step HB.out hb); clear HB hb; have HB := n0_; clear n0_)
  go_ret
  exact ⟨rfl, by repeat (first | exact HB.out | apply below_alloc)⟩
 have c1 : (aa == 9218868437227405312) = false := by rw [beq_eq_false_iff_ne]; omega
 have c2 : decide (aa = 9218868437227405312) = false := decide_eq_false (by omega)
 have c3 : ¬ aa = 9218868437227405312 := by omega
 rw [if_neg h1]
 by_cases h2 : a = 18442240474082181120
 ·have c4 : aa = 18442240474082181120 := by omega
  rw [if_pos h2]
  have hb : bs [45, 73, 110, 102] = ⟨#[45, 73, 110, 102]⟩ := rfl
  rw [hb]
  subst c4
  clear ha hf h1 h2 haa hb c1 c2 c3
  go_enter Tryz.func48, Tryz.ntmps48
  go_wp2_with (first | (go_at_call 13; (with_reducible refine (HR.out _).mono ?_); rintro q w' ⟨rfl, hb⟩; have n0_ := Aside0.mk (below_step HB.out hb); clear HB hb; have HB := n0_; clear n0_) | (go_at_call 106; (with_reducible refine (HN.out _).mono ?_); rintro q w' ⟨rfl, hb⟩; have n0_ := Aside0.mk (below_step (below_alloc HB.out _) hb); clear HB hb; have HB := n0_; clear n0_))
  go_ret
  exact ⟨rfl, by repeat (first | exact HB.out | apply below_alloc)⟩
 ·have c4 : (aa == 18442240474082181120) = false := by rw [beq_eq_false_iff_ne]; omega
  have c5 : decide (aa = 18442240474082181120) = false := decide_eq_false (by omega)
  have c6 : ¬ aa = 18442240474082181120 := by omega
  rw [if_neg h2]
  have hb : bs [78, 97, 78] = ⟨#[78, 97, 78]⟩ := rfl
  rw [hb]
  clear ha hf h1 h2 haa hb
  go_enter Tryz.func48, Tryz.ntmps48
  go_wp2_with (first | (go_at_call 13; (with_reducible refine (HR.out _).mono ?_); rintro q w' ⟨rfl, hb⟩; have n0_ := Aside0.mk (below_step HB.out hb); clear HB hb; have HB := n0_; clear n0_) | (go_at_call 106; (with_reducible refine (HN.out _).mono ?_); rintro q w' ⟨rfl, hb⟩; have n0_ := Aside0.mk (below_step (below_alloc HB.out _) hb); clear HB hb; have HB := n0_; clear n0_))
  go_ret
  exact ⟨rfl, by repeat (first | exact HB.out | apply below_alloc)⟩
theorem many_bound (n : Int) : 1 ≤ many n ∧ many n ≤ 17 := by unfold many; omega
theorem fixedV_len {d : List UInt8} {e n : Int} (hd : d.length ≤ 17) (he : -335 ≤ e) (he2 : e ≤ 343) (hn : 1 ≤ n) : (fixedV d e n).length ≤ 1000 := by
 unfold fixedV
 split
 ·simp; omega
 ·split
  ·simp; omega
  ·simp; omega
set_option maxHeartbeats 8000000 in
set_option maxRecDepth 100000 in
theorem d_Fixed (w : World) (a : Nat) (ha : a < 18446744073709551616) (n : Int) : Calls Tryz.prog 20 #[.int .u64 (a : Int), .int .i64 n] w fun x w' => x = .returned (.string (bs (shownV a (fixedV (repText a (many n)) (repExp a (many n)) (many n))))) ∧ Below w.heap.size w w' := by
 obtain ⟨hm1, hm2⟩ := many_bound n
 have key : ∀ w, Calls Tryz.prog 48 #[.int .u64 (a : Int), .int .i64 n, .func (.func 52) #[] #[]] w fun x w' => x = .returned (.string (bs (shownV a (fixedV (repText a (many n)) (repExp a (many n)) (many n))))) ∧ Below w.heap.size w w' := by
  intro w
  unfold shownV
  cases hf : ffin a with
  | false => exact d_shown_odd w a ha hf n 52
  | true =>
   have hl := repText_size hf hm1
   obtain ⟨b1, b2⟩ := repExp_bound hf (many n)
   exact d_shown_fixed w a ha hf n _ (Nat.le_trans (fixedV_len (by omega) b1 b2 hm1) (by decide)) w (Below.refl _ _) (fun w' _ => d_fixed w' _ _ _ _ (by omega) (by omega) (by omega) (by omega) (by omega))
 have HK := Aside0.mk key
 obtain ⟨u, hu⟩ : ∃ z, bs (shownV a (fixedV (repText a (many n)) (repExp a (many n)) (many n))) = z := ⟨_, rfl⟩
 obtain ⟨aa, haa⟩ : ∃ z : Int, (a : Int) = z := ⟨_, rfl⟩
 rw [hu, haa] at HK ⊢
 clear key hu haa ha hm1 hm2
 go_enter Tryz.func20, Tryz.ntmps20
 go_wp2_with (go_at_call 48; (with_reducible refine (HK.out _).mono ?_); rintro q w' ⟨rfl, hb⟩; have HB := Aside0.mk hb; clear hb)
 go_ret
 exact ⟨rfl, HB.out⟩
end Go.Proofs.YtdoeigngpemcgaaGreatDoor.Dec
namespace Go.Read
open Go.Flt Go.Proofs.YtdoeigngpemcgaaGreatDoor Go.Proofs.YtdoeigngpemcgaaGreatDoor.Dec
def q1 (l : List UInt8) := after [43, 45] l
def qA (l : List UInt8) := dg (q1 l)
def q2 (l : List UInt8) := past (q1 l)
def qp (l : List UInt8) := hasM [46] (q2 l)
def qB (l : List UInt8) := if qp l then dg (q2 l).tail else []
def q3 (l : List UInt8) := if qp l then past (q2 l).tail else q2 l
def qE (l : List UInt8) := hasM [69, 101, 68, 100] (q3 l)
def q4 (l : List UInt8) := after [69, 101, 68, 100] (q3 l)
def qS (l : List UInt8) := hasM [43, 45] (q4 l)
def qm (l : List UInt8) := minus (q4 l)
def q5 (l : List UInt8) := after [43, 45] (q4 l)
def qx (l : List UInt8) : Int := if qE l || qS l then expo (qm l) (dg (q5 l)) else 0
def q6 (l : List UInt8) := if qE l || qS l then past (q5 l) else q5 l
/-- what decimal.Parse answers -/
def parseN (l : List UInt8) : Nat × Bool :=
 if 400 < l.length then (0, false) else if l.all (· == 32) then (0, true) else if qA l ++ qB l = [] then (0, false) else
 if q6 l = [] then (sg (minus l) (flt (Num.decL 0 (qA l ++ qB l)) (qx l - (qB l).length)), true) else (0, false)
theorem after_len (of l : List UInt8) : (after of l).length ≤ l.length := by
 unfold after
 split
 ·rw [List.length_tail]; omega
 ·exact Nat.le_refl _
theorem past_len (l : List UInt8) : (past l).length ≤ l.length := (List.dropWhile_sublist _).length_le
theorem dg_digs (l : List UInt8) : Num.digs (dg l) = true := by
 unfold Num.digs dg
 induction l with
 | nil => rfl
 | cons c t ih =>
  rw [List.takeWhile_cons]
  split
  ·rw [List.all_cons, ih, Bool.and_true]
   assumption
  ·rfl
theorem digs_app {l m : List UInt8} (h : Num.digs l = true) (k : Num.digs m = true) : Num.digs (l ++ m) = true := by
 unfold Num.digs at *
 rw [List.all_append, h, k]
 rfl
theorem qB_digs (l : List UInt8) : Num.digs (qB l) = true := by
 unfold qB
 split
 ·exact dg_digs _
 ·rfl
theorem two_len (l : List UInt8) : (dg l).length + (past l).length = l.length := by
 rw [← List.length_append, dg_past]
theorem q_len (l : List UInt8) : (qA l).length + (qB l).length + (q3 l).length ≤ l.length := by
 have h1 := after_len [43, 45] l
 have h2 := two_len (q1 l)
 have h3 : (q1 l).length ≤ l.length := h1
 have h4 : (qA l).length + (q2 l).length = (q1 l).length := h2
 unfold qB q3
 split
 ·have h5 := two_len (q2 l).tail
  rw [List.length_tail] at h5
  omega
 ·show _ + 0 + _ ≤ _
  omega
theorem trim_nil (l : List UInt8) : Lib.trimB l 32 = [] ↔ l.all (· == 32) = true := by
 have key : ∀ l : List UInt8, l.dropWhile (· == 32) = [] ↔ l.all (· == 32) = true := by
  intro l
  induction l with
  | nil => exact ⟨fun _ => rfl, fun _ => rfl⟩
  | cons c t ih =>
   rw [List.dropWhile_cons, List.all_cons]
   by_cases h : (c == 32) = true
   ·rw [if_pos h, h, Bool.true_and]; exact ih
   ·rw [if_neg h]
    simp [h]
 unfold Lib.trimB Lib.trimLeftB Lib.trimRightB
 rw [key, List.all_reverse]
 have h2 : (l.reverse.dropWhile (· == 32)).all (· == 32) = true ↔ l.all (· == 32) = true := by
  rw [← List.all_reverse (l := l)]
  generalize l.reverse = m
  induction m with
  | nil => exact Iff.rfl
  | cons c t ih =>
   rw [List.dropWhile_cons, List.all_cons]
   by_cases h : (c == 32) = true
   ·rw [if_pos h, h, Bool.true_and]; exact ih
   ·rw [if_neg h, List.all_cons]
 exact h2
theorem expo_bound (neg : Bool) (l : List UInt8) (h : Num.digs l = true) : -100000 < expo neg l ∧ expo neg l < 100000 := by
 have key : ((if 5 < (trim0 l).length then 99999 else Num.decL 0 (trim0 l) : Nat) : Int) < 100000 := by
  split
  ·decide
  ·have h1 := Num.decL_lt (trim0 l) (Num.digs_mem (trim_digs h))
   have h2 : 10 ^ (trim0 l).length ≤ 10 ^ 5 := Nat.pow_le_pow_right (by decide) (by omega)
   omega
 unfold expo
 generalize ((if 5 < (trim0 l).length then 99999 else Num.decL 0 (trim0 l) : Nat)) = n at key ⊢
 cases neg
 ·show -100000 < (n : Int) ∧ (n : Int) < 100000
  omega
 ·show -100000 < -(n : Int) ∧ -(n : Int) < 100000
  omega
theorem qx_bound (l : List UInt8) : -100000 < qx l ∧ qx l < 100000 := by
 unfold qx
 split
 ·exact expo_bound _ _ (dg_digs _)
 ·omega
end Go.Read
set_option linter.unusedVariables false
set_option linter.unusedSimpArgs false
namespace Go.Proofs.YtdoeigngpemcgaaGreatDoor.Dec
open Go.RowKit Go.Flt Go.Read Go.Proofs.YtdoeigngpemcgaaGreatDoor.Pure Go.Proofs.YtdoeigngpemcgaaGreatDoorW.PrintWords Go.Proofs.YtdoeigngpemcgaaGreatDoorW.PrintLast Go.Proofs.YtdoeigngpemcgaaGreatDoorW.PrintMore
theorem below_or {n : Nat} {w0 w w' : World} (h : Below n w0 w) (k : w' = w ∨ w' = w.drew) : Below n w0 w' := by
 rcases k with rfl | rfl
 ·exact h
 ·exact below_drew h
set_option maxHeartbeats 4000000 in
set_option maxRecDepth 100000 in
theorem d_Parse_long (w : World) (l : List UInt8) (h : 400 < l.length) :
  Calls Tryz.prog 10 #[.string (bs l)] w fun e w' => e = .returned (.tuple #[.int .u64 0, .bool false]) ∧ Below w.heap.size w w' := by
 obtain ⟨s, hs⟩ : ∃ s, bs l = s := ⟨_, rfl⟩
 have c1 := decide_eq_true (show (400 : Int) < (s.size : Nat) by rw [← hs, bs_size]; omega)
 rw [hs]
 clear hs h
 go_enter Tryz.func10, Tryz.ntmps10
 go_wp2
 go_ret2
 exact ⟨rfl, Below.refl _ _⟩
set_option maxHeartbeats 4000000 in
set_option maxRecDepth 100000 in
theorem d_Parse_blank (w : World) (l : List UInt8) (h : l.length ≤ 400) (h2 : l.all (· == 32) = true) :
  Calls Tryz.prog 10 #[.string (bs l)] w fun e w' => e = .returned (.tuple #[.int .u64 0, .bool true]) ∧ Below w.heap.size w w' := by
 have HT := Aside0.mk (fun w => Tryz.strings_Trim_one (bs l) 32 (by decide) w (by rw [bs_size]; omega))
 obtain ⟨t, ht⟩ : ∃ t, (⟨(Lib.trimB (bs l).data.toList 32).toArray⟩ : ByteArray) = t := ⟨_, rfl⟩
 have c2 : t.toList = [] := by rw [← ht, ByteArray.toList_mk]; exact (trim_nil l).2 h2
 have c3 : t.toList.isEmpty = true := by rw [c2]; rfl
 rw [ht] at HT
 have HB := Aside0.mk (Below.refl w.heap.size w)
 obtain ⟨s, hs⟩ : ∃ s, bs l = s := ⟨_, rfl⟩
 have c1 := decide_eq_false (show ¬ (400 : Int) < (s.size : Nat) by rw [← hs, bs_size]; omega)
 rw [hs] at HT ⊢
 clear hs h h2 ht
 go_enter Tryz.func10, Tryz.ntmps10
 go_wp2_with (go_at_call 26; (with_reducible refine (HT.out _).mono ?_); rintro e w' ⟨rfl, hw⟩; have n0_ := Aside0.mk (below_or HB.out hw); clear HB hw; have HB := n0_; clear n0_)
 go_ret2
 exact ⟨rfl, HB.out⟩
set_option maxHeartbeats 8000000 in
set_option maxRecDepth 100000 in
theorem d_Parse_none (w : World) (l : List UInt8) (h : l.length ≤ 400) (h2 : ¬ l.all (· == 32) = true) (h3 : qA l ++ qB l = []) :
  Calls Tryz.prog 10 #[.string (bs l)] w fun e w' => e = .returned (.tuple #[.int .u64 0, .bool false]) ∧ Below w.heap.size w w' := by
 have hu46 := Tryz.underlying46
 have HT := Aside0.mk (fun w => Tryz.strings_Trim_one (bs l) 32 (by decide) w (by rw [bs_size]; omega))
 obtain ⟨t, ht⟩ : ∃ t, (⟨(Lib.trimB (bs l).data.toList 32).toArray⟩ : ByteArray) = t := ⟨_, rfl⟩
 have c2 : ¬ t.toList = [] := by rw [← ht, ByteArray.toList_mk]; exact fun e => h2 ((trim_nil l).1 e)
 have c3 : t.toList.isEmpty = false := by
  cases e : t.toList with
  | nil => exact absurd e c2
  | cons a b => rfl
 rw [ht] at HT
 have HB := Aside0.mk (Below.refl w.heap.size w)
 have HS1 := Aside0.mk (fun w' g (hb : Below w.heap.size w w') (hg : w.heap.size ≤ g) (h : Rd w' g l) => d_sign w w' g l hb hg h)
 have k1 : (q1 l).length ≤ 1000000 := Nat.le_trans (after_len _ _) (by omega)
 have HD1 := Aside0.mk (fun w' g (hb : Below w.heap.size w w') (hg : w.heap.size ≤ g) (h : Rd w' g (q1 l)) => d_digits w w' g (q1 l) k1 hb hg h)
 have HP := Aside0.mk (fun w' g (hb : Below w.heap.size w w') (hg : w.heap.size ≤ g) (h : Rd w' g (q2 l)) => d_take w w' g [46] (q2 l) hb hg h)
 have hp46 : bs [46] = ⟨#[46]⟩ := rfl
 have hp4 : bs [69, 101, 68, 100] = ⟨#[69, 101, 68, 100]⟩ := rfl
 rw [hp46] at HP
 have k2 : (q2 l).tail.length ≤ 1000000 := by have := past_len (q1 l); have : (q2 l).length ≤ _ := this; rw [List.length_tail]; omega
 have HD2 := Aside0.mk (fun w' g (hb : Below w.heap.size w w') (hg : w.heap.size ≤ g) (h : Rd w' g (q2 l).tail) => d_digits w w' g (q2 l).tail k2 hb hg h)
 have HE := Aside0.mk (fun w' g (hb : Below w.heap.size w w') (hg : w.heap.size ≤ g) (h : Rd w' g (q3 l)) => d_take w w' g [69, 101, 68, 100] (q3 l) hb hg h)
 rw [hp4] at HE
 have HS2 := Aside0.mk (fun w' g (hb : Below w.heap.size w w') (hg : w.heap.size ≤ g) (h : Rd w' g (q4 l)) => d_sign w w' g (q4 l) hb hg h)
 have k3 : (q5 l).length ≤ 1000000 := Nat.le_trans (after_len _ _) (Nat.le_trans (after_len _ _) (by have := q_len l; omega))
 have HD3 := Aside0.mk (fun w' g (hb : Below w.heap.size w w') (hg : w.heap.size ≤ g) (h : Rd w' g (q5 l)) => d_digits w w' g (q5 l) k3 hb hg h)
 have HX := Aside0.mk (fun w' => d_exponent w' (qm l) (dg (q5 l)) (dg_digs _) (Nat.le_trans (dg_len _) k3))
 have hql := q_len l
 have HF := Aside0.mk (fun w' => d_float w' (minus l) (qA l ++ qB l) (digs_app (dg_digs _) (qB_digs l)) (by rw [List.length_append]; omega) (qx l - (qB l).length))
 have n1 : after [43, 45] l = q1 l := rfl
 have n2 : past (q1 l) = q2 l := rfl
 have n3 : dg (q1 l) = qA l := rfl
 have n4 : hasM [46] (q2 l) = qp l := rfl
 have n5 : hasM [69, 101, 68, 100] (q3 l) = qE l := rfl
 have n6 : after [69, 101, 68, 100] (q3 l) = q4 l := rfl
 have n7 : hasM [43, 45] (q4 l) = qS l := rfl
 have n8 : after [43, 45] (q4 l) = q5 l := rfl
 have n9 : minus (q4 l) = qm l := rfl
 rw [n1] at HS1
 rw [n2, n3] at HD1
 rw [n4] at HP
 rw [n5, n6] at HE
 rw [n7, n8, n9] at HS2
 have hlB : ((bs (qB l)).size : Nat) = (qB l).length := bs_size _
 have hAB : bs (qA l) ++ bs (qB l) = bs (qA l ++ qB l) := by apply ByteArray.ext; simp [bs]
 have hlA : (bs (qA l)).size = (qA l).length := bs_size _
 obtain ⟨sAB, hsAB⟩ : ∃ s, bs (qA l ++ qB l) = s := ⟨_, rfl⟩
 have hABl : sAB.toList = qA l ++ qB l := by rw [← hsAB, bs_list]
 obtain ⟨s, hs⟩ : ∃ s, bs l = s := ⟨_, rfl⟩
 have c1 := decide_eq_false (show ¬ (400 : Int) < (s.size : Nat) by rw [← hs, bs_size]; omega)
 rw [hs] at HT ⊢
 have HSE : Aside0 (bs l = s) := ⟨hs⟩
 obtain ⟨neg, hneg⟩ : ∃ x, minus l = x := ⟨_, rfl⟩
 rw [hneg] at HS1 HF
 rw [hsAB] at HF hAB
 obtain ⟨sA, hsA⟩ : ∃ s, bs (qA l) = s := ⟨_, rfl⟩
 rw [hsA] at HD1 hAB hlA
 obtain ⟨sB, hsB⟩ : ∃ s, bs (qB l) = s := ⟨_, rfl⟩
 rw [hsB] at hAB hlB
 have c4 : ¬ 9223372036854775807 < sA.size + sB.size := by omega
 have c5 : sAB.toList = [] := by rw [hABl, h3]
 have c6 : sAB.toList.isEmpty = true := by rw [c5]; rfl
 have hnB : qB l = [] := (List.append_eq_nil_iff.1 h3).2
 have hnA : qA l = [] := (List.append_eq_nil_iff.1 h3).1
 by_cases hp : qp l = true
 ·have m1 : after [46] (q2 l) = (q2 l).tail := by unfold after; rw [if_pos (n4.trans hp)]
  have m2 : dg (q2 l).tail = qB l := by unfold qB; rw [if_pos hp]
  have m3 : past (q2 l).tail = q3 l := by unfold q3; rw [if_pos hp]
  rw [m1, hp] at HP
  rw [m2, m3, hsB] at HD2
  clear HX HF HD3 HS2 HE k1 k2 k3 hql h h2 h3 ht hp46 hp4 n1 n2 n3 n4 n5 n6 n7 n8 n9 hs hneg hABl hsAB hsA hsB hp m1 m2 m3 hnB hnA hlA hlB
  go_enter Tryz.func10, Tryz.ntmps10
  go_wp2_with (first | (go_at_call 26; (with_reducible refine (HT.out _).mono ?_); rintro e w' ⟨rfl, hw⟩; have n0_ := Aside0.mk (below_or HB.out hw); clear HB hw; have HB := n0_; clear n0_) | ((with_reducible refine gate_dst (N := 26) rfl ?_); refine box_event ?hg (N := 26) ?hd (cs := #[.string s]) (t := 46) ?hr ?_; (case hd => rfl); (case hg => rfl); (case hr => first | (go_simp; done) | (go_simp; rfl)); intro g1 hg w4 hbox hb; have n0_ := Aside0.mk (show Rd w4 g1 l by unfold Rd; rw [HSE.out]; exact hbox); have n2_ := Aside0.mk ((by rw [hg]; exact (below_size HB.out)) : w.heap.size ≤ g1); have n1_ := Aside0.mk (below_step HB.out hb); clear HB; have HB := n1_; have HR := n0_; have GE := n2_; clear n0_ n1_ n2_; clear hb hbox hg) | (go_at_call 27; (with_reducible refine (HS1.out _ _ HB.out GE.out HR.out).mono ?_); rintro e w' ⟨rfl, hr, hb⟩; have n0_ := Aside0.mk hr; have n1_ := Aside0.mk hb; clear HR HB hr hb; have HR := n0_; have HB := n1_; clear n0_ n1_) | (go_at_call 28; (with_reducible refine (HD1.out _ _ HB.out GE.out HR.out).mono ?_); rintro e w' ⟨rfl, hr, hb⟩; have n0_ := Aside0.mk hr; have n1_ := Aside0.mk hb; clear HR HB hr hb; have HR := n0_; have HB := n1_; clear n0_ n1_) | (go_at_call 29; (with_reducible refine (HP.out _ _ HB.out GE.out HR.out).mono ?_); rintro e w' ⟨rfl, hr, hb⟩; have n0_ := Aside0.mk hr; have n1_ := Aside0.mk hb; clear HR HB hr hb; have HR := n0_; have HB := n1_; clear n0_ n1_) | (go_at_call 28; (with_reducible refine (HD2.out _ _ HB.out GE.out HR.out).mono ?_); rintro e w' ⟨rfl, hr, hb⟩; have n0_ := Aside0.mk hr; have n1_ := Aside0.mk hb; clear HR HB hr hb; have HR := n0_; have HB := n1_; clear n0_ n1_))
  go_ret2
  exact ⟨rfl, HB.out⟩
 ·have hp' : qp l = false := by cases e : qp l with | true => exact absurd e hp | false => rfl
  have m1 : after [46] (q2 l) = q2 l := by unfold after; rw [if_neg (by rw [n4]; exact hp)]
  rw [m1, hp'] at HP
  have c7 : sA ++ ⟨#[]⟩ = sAB := by rw [← hAB, ← hsB, hnB]; rfl
  have c8 : sA = sAB := by rw [← hsA, ← hsAB, hnB, List.append_nil]
  subst c8
  have c9 : ¬ 9223372036854775807 < sA.size := by omega
  clear HX HF HD3 HS2 HE HD2 k1 k2 k3 hql h h2 h3 ht hp46 hp4 n1 n2 n3 n4 n5 n6 n7 n8 n9 hs hneg hABl hsAB hsA hsB hp m1 hnB hnA hlA hlB hp' hAB c4
  go_enter Tryz.func10, Tryz.ntmps10
  go_wp2_with (first | (go_at_call 26; (with_reducible refine (HT.out _).mono ?_); rintro e w' ⟨rfl, hw⟩; have n0_ := Aside0.mk (below_or HB.out hw); clear HB hw; have HB := n0_; clear n0_) | ((with_reducible refine gate_dst (N := 26) rfl ?_); refine box_event ?hg (N := 26) ?hd (cs := #[.string s]) (t := 46) ?hr ?_; (case hd => rfl); (case hg => rfl); (case hr => first | (go_simp; done) | (go_simp; rfl)); intro g1 hg w4 hbox hb; have n0_ := Aside0.mk (show Rd w4 g1 l by unfold Rd; rw [HSE.out]; exact hbox); have n2_ := Aside0.mk ((by rw [hg]; exact (below_size HB.out)) : w.heap.size ≤ g1); have n1_ := Aside0.mk (below_step HB.out hb); clear HB; have HB := n1_; have HR := n0_; have GE := n2_; clear n0_ n1_ n2_; clear hb hbox hg) | (go_at_call 27; (with_reducible refine (HS1.out _ _ HB.out GE.out HR.out).mono ?_); rintro e w' ⟨rfl, hr, hb⟩; have n0_ := Aside0.mk hr; have n1_ := Aside0.mk hb; clear HR HB hr hb; have HR := n0_; have HB := n1_; clear n0_ n1_) | (go_at_call 28; (with_reducible refine (HD1.out _ _ HB.out GE.out HR.out).mono ?_); rintro e w' ⟨rfl, hr, hb⟩; have n0_ := Aside0.mk hr; have n1_ := Aside0.mk hb; clear HR HB hr hb; have HR := n0_; have HB := n1_; clear n0_ n1_) | (go_at_call 29; (with_reducible refine (HP.out _ _ HB.out GE.out HR.out).mono ?_); rintro e w' ⟨rfl, hr, hb⟩; have n0_ := Aside0.mk hr; have n1_ := Aside0.mk hb; clear HR HB hr hb; have HR := n0_; have HB := n1_; clear n0_ n1_))
  go_ret2
  exact ⟨rfl, HB.out⟩
set_option maxHeartbeats 16000000 in
set_option maxRecDepth 100000 in
theorem d_Parse_some (w : World) (l : List UInt8) (h : l.length ≤ 400) (h2 : ¬ l.all (· == 32) = true) (h3 : ¬ qA l ++ qB l = []) (F : Int) (hFF : ((sg (minus l) (flt (Num.decL 0 (qA l ++ qB l)) (qx l - (qB l).length)) : Nat) : Int) = F) :
  Calls Tryz.prog 10 #[.string (bs l)] w fun e w' => e = .returned (if q6 l = [] then .tuple #[.int .u64 F, .bool true] else .tuple #[.int .u64 0, .bool false]) ∧ Below w.heap.size w w' := by
 have hu46 := Tryz.underlying46
 have HT := Aside0.mk (fun w => Tryz.strings_Trim_one (bs l) 32 (by decide) w (by rw [bs_size]; omega))
 obtain ⟨t, ht⟩ : ∃ t, (⟨(Lib.trimB (bs l).data.toList 32).toArray⟩ : ByteArray) = t := ⟨_, rfl⟩
 have c2 : ¬ t.toList = [] := by rw [← ht, ByteArray.toList_mk]; exact fun e => h2 ((trim_nil l).1 e)
 have c3 : t.toList.isEmpty = false := by
  cases e : t.toList with
  | nil => exact absurd e c2
  | cons a b => rfl
 rw [ht] at HT
 have HB := Aside0.mk (Below.refl w.heap.size w)
 have HS1 := Aside0.mk (fun w' g (hb : Below w.heap.size w w') (hg : w.heap.size ≤ g) (h : Rd w' g l) => d_sign w w' g l hb hg h)
 have k1 : (q1 l).length ≤ 1000000 := Nat.le_trans (after_len _ _) (by omega)
 have HD1 := Aside0.mk (fun w' g (hb : Below w.heap.size w w') (hg : w.heap.size ≤ g) (h : Rd w' g (q1 l)) => d_digits w w' g (q1 l) k1 hb hg h)
 have HP := Aside0.mk (fun w' g (hb : Below w.heap.size w w') (hg : w.heap.size ≤ g) (h : Rd w' g (q2 l)) => d_take w w' g [46] (q2 l) hb hg h)
 have hp46 : bs [46] = ⟨#[46]⟩ := rfl
 have hp4 : bs [69, 101, 68, 100] = ⟨#[69, 101, 68, 100]⟩ := rfl
 rw [hp46] at HP
 have k2 : (q2 l).tail.length ≤ 1000000 := by have := past_len (q1 l); have : (q2 l).length ≤ _ := this; rw [List.length_tail]; omega
 have HD2 := Aside0.mk (fun w' g (hb : Below w.heap.size w w') (hg : w.heap.size ≤ g) (h : Rd w' g (q2 l).tail) => d_digits w w' g (q2 l).tail k2 hb hg h)
 have HE := Aside0.mk (fun w' g (hb : Below w.heap.size w w') (hg : w.heap.size ≤ g) (h : Rd w' g (q3 l)) => d_take w w' g [69, 101, 68, 100] (q3 l) hb hg h)
 rw [hp4] at HE
 have HS2 := Aside0.mk (fun w' g (hb : Below w.heap.size w w') (hg : w.heap.size ≤ g) (h : Rd w' g (q4 l)) => d_sign w w' g (q4 l) hb hg h)
 have k3 : (q5 l).length ≤ 1000000 := Nat.le_trans (after_len _ _) (Nat.le_trans (after_len _ _) (by have := q_len l; omega))
 have HD3 := Aside0.mk (fun w' g (hb : Below w.heap.size w w') (hg : w.heap.size ≤ g) (h : Rd w' g (q5 l)) => d_digits w w' g (q5 l) k3 hb hg h)
 have HX := Aside0.mk (fun w' => d_exponent w' (qm l) (dg (q5 l)) (dg_digs _) (Nat.le_trans (dg_len _) k3))
 have hql := q_len l
 have HF := Aside0.mk (fun w' => d_float w' (minus l) (qA l ++ qB l) (digs_app (dg_digs _) (qB_digs l)) (by rw [List.length_append]; omega) (qx l - (qB l).length))
 have n1 : after [43, 45] l = q1 l := rfl
 have n2 : past (q1 l) = q2 l := rfl
 have n3 : dg (q1 l) = qA l := rfl
 have n4 : hasM [46] (q2 l) = qp l := rfl
 have n5 : hasM [69, 101, 68, 100] (q3 l) = qE l := rfl
 have n6 : after [69, 101, 68, 100] (q3 l) = q4 l := rfl
 have n7 : hasM [43, 45] (q4 l) = qS l := rfl
 have n8 : after [43, 45] (q4 l) = q5 l := rfl
 have n9 : minus (q4 l) = qm l := rfl
 rw [n1] at HS1
 rw [n2, n3] at HD1
 rw [n4] at HP
 rw [n5, n6] at HE
 rw [n7, n8, n9] at HS2
 have hlB : ((bs (qB l)).size : Nat) = (qB l).length := bs_size _
 have hAB : bs (qA l) ++ bs (qB l) = bs (qA l ++ qB l) := by apply ByteArray.ext; simp [bs]
 have hlA : (bs (qA l)).size = (qA l).length := bs_size _
 obtain ⟨sAB, hsAB⟩ : ∃ s, bs (qA l ++ qB l) = s := ⟨_, rfl⟩
 have hABl : sAB.toList = qA l ++ qB l := by rw [← hsAB, bs_list]
 obtain ⟨s, hs⟩ : ∃ s, bs l = s := ⟨_, rfl⟩
 have c1 := decide_eq_false (show ¬ (400 : Int) < (s.size : Nat) by rw [← hs, bs_size]; omega)
 rw [hs] at HT ⊢
 have HSE : Aside0 (bs l = s) := ⟨hs⟩
 obtain ⟨neg, hneg⟩ : ∃ x, minus l = x := ⟨_, rfl⟩
 rw [hFF] at HF
 rw [hneg] at HS1 HF
 rw [hsAB] at HF hAB
 obtain ⟨sA, hsA⟩ : ∃ s, bs (qA l) = s := ⟨_, rfl⟩
 rw [hsA] at HD1 hAB hlA
 obtain ⟨sB, hsB⟩ : ∃ s, bs (qB l) = s := ⟨_, rfl⟩
 rw [hsB] at hAB hlB
 have c4 : ¬ 9223372036854775807 < sA.size + sB.size := by omega
 have c5 : ¬ sAB.toList = [] := by rw [hABl]; exact h3
 have c6 : sAB.toList.isEmpty = false := by
  cases e : sAB.toList with
  | nil => exact absurd e c5
  | cons a b => rfl
 obtain ⟨res, hres⟩ : ∃ z : Value, (if q6 l = [] then Value.tuple #[.int .u64 F, .bool true] else .tuple #[.int .u64 0, .bool false]) = z := ⟨_, rfl⟩
 have HRES := Aside0.mk hres
 rw [hres]
 clear hres
 obtain ⟨s6, hs6⟩ : ∃ s, bs (q6 l) = s := ⟨_, rfl⟩
 have HS6 : Aside0 (bs (q6 l) = s6) := ⟨hs6⟩
 have hl6 := Aside0.mk (show s6.toList = q6 l by rw [← hs6, bs_list])
 have hexb : -100000 < qx l ∧ qx l < 100000 := qx_bound l
 obtain ⟨ex, hex⟩ : ∃ z, qx l = z := ⟨_, rfl⟩
 have HEX := Aside0.mk hex
 obtain ⟨zB, hzB⟩ : ∃ z : Int, ((sB.size : Nat) : Int) = z := ⟨_, rfl⟩
 have hzB' : 0 ≤ zB ∧ zB ≤ 400 := by omega
 obtain ⟨e', he'⟩ : ∃ z, ex - zB = z := ⟨_, rfl⟩
 rw [hex] at HF hexb
 clear hex
 rw [show ((qB l).length : Int) = zB by omega, he'] at HF
 have w1 : wrap64 (ex - zB) = e' := by rw [i64_id (by omega) (by omega)]; exact he'
 have w2 : IntKind.i64.wrap (ex - zB) = e' := (i64_w _).trans w1
 obtain ⟨sx, hsx⟩ : ∃ s, bs (dg (q5 l)) = s := ⟨_, rfl⟩
 rw [hsx] at HX HD3
 clear hFF
 by_cases hp : qp l = true
 ·have m1 : after [46] (q2 l) = (q2 l).tail := by unfold after; rw [if_pos (n4.trans hp)]
  have m2 : dg (q2 l).tail = qB l := by unfold qB; rw [if_pos hp]
  have m3 : past (q2 l).tail = q3 l := by unfold q3; rw [if_pos hp]
  rw [m1, hp] at HP
  rw [m2, m3, hsB] at HD2
  have w4 : ex = 0 → wrap64 (-zB) = e' := fun h => by rw [i64_id (by omega) (by omega)]; omega
  have W4 := Aside0.mk w4
  clear m2 m3 w4 hexb hzB' k1 k2 k3 hql h h2 h3 ht hp46 hp4 n1 n2 n3 n4 n5 n6 n7 n8 n9 hs hneg hABl hsAB hsA hsB hp m1 hlA hlB hs6 he' hsx
  go_enter Tryz.func10, Tryz.ntmps10
  go_upto_region 14 with (first | (go_at_call 26; (with_reducible refine (HT.out _).mono ?_); rintro e w' ⟨rfl, hw⟩; have n0_ := Aside0.mk (below_or HB.out hw); clear HB hw; have HB := n0_; clear n0_) | ((with_reducible refine gate_dst (N := 26) rfl ?_); refine box_event ?hg (N := 26) ?hd (cs := #[.string s]) (t := 46) ?hr ?_; (case hd => rfl); (case hg => rfl); (case hr => first | (go_simp; done) | (go_simp; rfl)); intro g1 hg w4 hbox hb; have n0_ := Aside0.mk (show Rd w4 g1 l by unfold Rd; rw [HSE.out]; exact hbox); have n2_ := Aside0.mk ((by rw [hg]; exact (below_size HB.out)) : w.heap.size ≤ g1); have n1_ := Aside0.mk (below_step HB.out hb); clear HB; have HB := n1_; have HR := n0_; have GE := n2_; clear n0_ n1_ n2_; clear hb hbox hg) | (go_at_call 27; (with_reducible refine (HS1.out _ _ HB.out GE.out HR.out).mono ?_); rintro e w' ⟨rfl, hr, hb⟩; have n0_ := Aside0.mk hr; have n1_ := Aside0.mk hb; clear HR HB hr hb; have HR := n0_; have HB := n1_; clear n0_ n1_) | (go_at_call 28; (with_reducible refine (HD1.out _ _ HB.out GE.out HR.out).mono ?_); rintro e w' ⟨rfl, hr, hb⟩; have n0_ := Aside0.mk hr; have n1_ := Aside0.mk hb; clear HR HB hr hb; have HR := n0_; have HB := n1_; clear n0_ n1_) | (go_at_call 29; (with_reducible refine (HP.out _ _ HB.out GE.out HR.out).mono ?_); rintro e w' ⟨rfl, hr, hb⟩; have n0_ := Aside0.mk hr; have n1_ := Aside0.mk hb; clear HR HB hr hb; have HR := n0_; have HB := n1_; clear n0_ n1_) | (go_at_call 28; (with_reducible refine (HD2.out _ _ HB.out GE.out HR.out).mono ?_); rintro e w' ⟨rfl, hr, hb⟩; have n0_ := Aside0.mk hr; have n1_ := Aside0.mk hb; clear HR HB hr hb; have HR := n0_; have HB := n1_; clear n0_ n1_))
  by_cases hes : (qE l || qS l) = true
  ·have hq6 : q6 l = past (q5 l) := by unfold q6; rw [if_pos hes]
   rw [hq6] at HS6
   have hx : expo (qm l) (dg (q5 l)) = ex := by rw [← HEX.out]; unfold qx; rw [if_pos hes]
   rw [hx] at HX
   cases hE : qE l with
   | true =>
    rw [hE] at HE
    clear hE hx
    by_cases h6 : past (q5 l) = []
    ·have d1 : s6.toList = [] := by rw [hl6.out]; exact hq6.trans h6
     have d2 : s6.toList.isEmpty = true := by rw [d1]; rfl
     have HC := Aside0.mk (show q6 l = [] from hq6.trans h6)
     clear h6 hq6 hes
     go_wp2_with (first | (go_at_call 29; (with_reducible refine (HE.out _ _ HB.out GE.out HR.out).mono ?_); rintro e w' ⟨rfl, hr, hb⟩; have n0_ := Aside0.mk hr; have n1_ := Aside0.mk hb; clear HR HB hr hb; have HR := n0_; have HB := n1_; clear n0_ n1_) | (go_at_call 27; (with_reducible refine (HS2.out _ _ HB.out GE.out HR.out).mono ?_); rintro e w' ⟨rfl, hr, hb⟩; have n0_ := Aside0.mk hr; have n1_ := Aside0.mk hb; clear HR HB hr hb; have HR := n0_; have HB := n1_; clear n0_ n1_) | (go_at_call 28; (with_reducible refine (HD3.out _ _ HB.out GE.out HR.out).mono ?_); rintro e w' ⟨rfl, hr, hb⟩; have n0_ := Aside0.mk hr; have n1_ := Aside0.mk hb; clear HR HB hr hb; have HR := n0_; have HB := n1_; clear n0_ n1_) | (go_at_call 30; (with_reducible refine (HX.out _).mono ?_); rintro e w' ⟨rfl, hb⟩; have n0_ := Aside0.mk (show Rd _ g1 _ from blk_below HR.out hb); have n1_ := Aside0.mk (below_step HB.out hb); clear HR HB hb; have HR := n0_; have HB := n1_; clear n0_ n1_; have zz : w'.cell? ⟨g1, 0, none⟩ = some (.string s6) := by rw [← HS6.out]; exact (blk_cell HR.out 0).trans rfl) | (go_at_call 31; (with_reducible refine (HF.out _).mono ?_); rintro e w' ⟨rfl, hb⟩; have n1_ := Aside0.mk (below_step HB.out hb); clear HB hb; have HB := n1_; clear n1_))
     go_ret2
     exact ⟨by rw [← HRES.out, if_pos HC.out]; rfl, HB.out⟩
    ·have d1 : ¬ s6.toList = [] := by rw [hl6.out]; exact fun h => h6 (hq6.symm.trans h)
     have d2 : s6.toList.isEmpty = false := by
      cases e : s6.toList with
      | nil => exact absurd e d1
      | cons a b => rfl
     have HC := Aside0.mk (show ¬ q6 l = [] from fun h => h6 (hq6.symm.trans h))
     clear h6 hq6 hes
     go_wp2_with (first | (go_at_call 29; (with_reducible refine (HE.out _ _ HB.out GE.out HR.out).mono ?_); rintro e w' ⟨rfl, hr, hb⟩; have n0_ := Aside0.mk hr; have n1_ := Aside0.mk hb; clear HR HB hr hb; have HR := n0_; have HB := n1_; clear n0_ n1_) | (go_at_call 27; (with_reducible refine (HS2.out _ _ HB.out GE.out HR.out).mono ?_); rintro e w' ⟨rfl, hr, hb⟩; have n0_ := Aside0.mk hr; have n1_ := Aside0.mk hb; clear HR HB hr hb; have HR := n0_; have HB := n1_; clear n0_ n1_) | (go_at_call 28; (with_reducible refine (HD3.out _ _ HB.out GE.out HR.out).mono ?_); rintro e w' ⟨rfl, hr, hb⟩; have n0_ := Aside0.mk hr; have n1_ := Aside0.mk hb; clear HR HB hr hb; have HR := n0_; have HB := n1_; clear n0_ n1_) | (go_at_call 30; (with_reducible refine (HX.out _).mono ?_); rintro e w' ⟨rfl, hb⟩; have n0_ := Aside0.mk (show Rd _ g1 _ from blk_below HR.out hb); have n1_ := Aside0.mk (below_step HB.out hb); clear HR HB hb; have HR := n0_; have HB := n1_; clear n0_ n1_; have zz : w'.cell? ⟨g1, 0, none⟩ = some (.string s6) := by rw [← HS6.out]; exact (blk_cell HR.out 0).trans rfl) | (go_at_call 31; (with_reducible refine (HF.out _).mono ?_); rintro e w' ⟨rfl, hb⟩; have n1_ := Aside0.mk (below_step HB.out hb); clear HB hb; have HB := n1_; clear n1_))
     go_ret2
     exact ⟨by rw [← HRES.out, if_neg HC.out]; rfl, HB.out⟩
   | false =>
    have hS : qS l = true := by rw [hE, Bool.false_or] at hes; exact hes
    rw [hE] at HE
    rw [hS] at HS2
    clear hE hx hS
    by_cases h6 : past (q5 l) = []
    ·have d1 : s6.toList = [] := by rw [hl6.out]; exact hq6.trans h6
     have d2 : s6.toList.isEmpty = true := by rw [d1]; rfl
     have HC := Aside0.mk (show q6 l = [] from hq6.trans h6)
     clear h6 hq6 hes
     go_wp2_with (first | (go_at_call 29; (with_reducible refine (HE.out _ _ HB.out GE.out HR.out).mono ?_); rintro e w' ⟨rfl, hr, hb⟩; have n0_ := Aside0.mk hr; have n1_ := Aside0.mk hb; clear HR HB hr hb; have HR := n0_; have HB := n1_; clear n0_ n1_) | (go_at_call 27; (with_reducible refine (HS2.out _ _ HB.out GE.out HR.out).mono ?_); rintro e w' ⟨rfl, hr, hb⟩; have n0_ := Aside0.mk hr; have n1_ := Aside0.mk hb; clear HR HB hr hb; have HR := n0_; have HB := n1_; clear n0_ n1_) | (go_at_call 28; (with_reducible refine (HD3.out _ _ HB.out GE.out HR.out).mono ?_); rintro e w' ⟨rfl, hr, hb⟩; have n0_ := Aside0.mk hr; have n1_ := Aside0.mk hb; clear HR HB hr hb; have HR := n0_; have HB := n1_; clear n0_ n1_) | (go_at_call 30; (with_reducible refine (HX.out _).mono ?_); rintro e w' ⟨rfl, hb⟩; have n0_ := Aside0.mk (show Rd _ g1 _ from blk_below HR.out hb); have n1_ := Aside0.mk (below_step HB.out hb); clear HR HB hb; have HR := n0_; have HB := n1_; clear n0_ n1_; have zz : w'.cell? ⟨g1, 0, none⟩ = some (.string s6) := by rw [← HS6.out]; exact (blk_cell HR.out 0).trans rfl) | (go_at_call 31; (with_reducible refine (HF.out _).mono ?_); rintro e w' ⟨rfl, hb⟩; have n1_ := Aside0.mk (below_step HB.out hb); clear HB hb; have HB := n1_; clear n1_))
     go_ret2
     exact ⟨by rw [← HRES.out, if_pos HC.out]; rfl, HB.out⟩
    ·have d1 : ¬ s6.toList = [] := by rw [hl6.out]; exact fun h => h6 (hq6.symm.trans h)
     have d2 : s6.toList.isEmpty = false := by
      cases e : s6.toList with
      | nil => exact absurd e d1
      | cons a b => rfl
     have HC := Aside0.mk (show ¬ q6 l = [] from fun h => h6 (hq6.symm.trans h))
     clear h6 hq6 hes
     go_wp2_with (first | (go_at_call 29; (with_reducible refine (HE.out _ _ HB.out GE.out HR.out).mono ?_); rintro e w' ⟨rfl, hr, hb⟩; have n0_ := Aside0.mk hr; have n1_ := Aside0.mk hb; clear HR HB hr hb; have HR := n0_; have HB := n1_; clear n0_ n1_) | (go_at_call 27; (with_reducible refine (HS2.out _ _ HB.out GE.out HR.out).mono ?_); rintro e w' ⟨rfl, hr, hb⟩; have n0_ := Aside0.mk hr; have n1_ := Aside0.mk hb; clear HR HB hr hb; have HR := n0_; have HB := n1_; clear n0_ n1_) | (go_at_call 28; (with_reducible refine (HD3.out _ _ HB.out GE.out HR.out).mono ?_); rintro e w' ⟨rfl, hr, hb⟩; have n0_ := Aside0.mk hr; have n1_ := Aside0.mk hb; clear HR HB hr hb; have HR := n0_; have HB := n1_; clear n0_ n1_) | (go_at_call 30; (with_reducible refine (HX.out _).mono ?_); rintro e w' ⟨rfl, hb⟩; have n0_ := Aside0.mk (show Rd _ g1 _ from blk_below HR.out hb); have n1_ := Aside0.mk (below_step HB.out hb); clear HR HB hb; have HR := n0_; have HB := n1_; clear n0_ n1_; have zz : w'.cell? ⟨g1, 0, none⟩ = some (.string s6) := by rw [← HS6.out]; exact (blk_cell HR.out 0).trans rfl) | (go_at_call 31; (with_reducible refine (HF.out _).mono ?_); rintro e w' ⟨rfl, hb⟩; have n1_ := Aside0.mk (below_step HB.out hb); clear HB hb; have HB := n1_; clear n1_))
     go_ret2
     exact ⟨by rw [← HRES.out, if_neg HC.out]; rfl, HB.out⟩
  ·have hes' : (qE l || qS l) = false := by cases e : (qE l || qS l) with | true => exact absurd e hes | false => rfl
   have hq6 : q6 l = q5 l := by unfold q6; rw [if_neg hes]
   rw [hq6] at HS6
   have hE : qE l = false := (Bool.or_eq_false_iff.1 hes').1
   have hS : qS l = false := (Bool.or_eq_false_iff.1 hes').2
   have hx : ex = 0 := by rw [← HEX.out]; unfold qx; rw [if_neg hes]
   have w4 := W4.out hx
   have w5 : IntKind.i64.wrap (-zB) = e' := (i64_w _).trans w4
   clear HEX
   subst hx
   rw [hE] at HE
   rw [hS] at HS2
   clear hE hS hes' HX HD3
   by_cases h6 : q5 l = []
   ·have d1 : s6.toList = [] := by rw [hl6.out]; exact hq6.trans h6
    have d2 : s6.toList.isEmpty = true := by rw [d1]; rfl
    have HC := Aside0.mk (show q6 l = [] from hq6.trans h6)
    clear h6 hq6 hes
    go_wp2_with (first | (go_at_call 29; (with_reducible refine (HE.out _ _ HB.out GE.out HR.out).mono ?_); rintro e w' ⟨rfl, hr, hb⟩; have n0_ := Aside0.mk hr; have n1_ := Aside0.mk hb; clear HR HB hr hb; have HR := n0_; have HB := n1_; clear n0_ n1_) | (go_at_call 27; (with_reducible refine (HS2.out _ _ HB.out GE.out HR.out).mono ?_); rintro e w' ⟨rfl, hr, hb⟩; have n0_ := Aside0.mk hr; have n1_ := Aside0.mk hb; clear HR HB hr hb; have HR := n0_; have HB := n1_; clear n0_ n1_; have zz : w'.cell? ⟨g1, 0, none⟩ = some (.string s6) := by rw [← HS6.out]; exact (blk_cell HR.out 0).trans rfl) | (go_at_call 31; (with_reducible refine (HF.out _).mono ?_); rintro e w' ⟨rfl, hb⟩; have n1_ := Aside0.mk (below_step HB.out hb); clear HB hb; have HB := n1_; clear n1_))
    go_ret2
    exact ⟨by rw [← HRES.out, if_pos HC.out]; rfl, HB.out⟩
   ·have d1 : ¬ s6.toList = [] := by rw [hl6.out]; exact fun h => h6 (hq6.symm.trans h)
    have d2 : s6.toList.isEmpty = false := by
     cases e : s6.toList with
     | nil => exact absurd e d1
     | cons a b => rfl
    have HC := Aside0.mk (show ¬ q6 l = [] from fun h => h6 (hq6.symm.trans h))
    clear h6 hq6 hes
    go_wp2_with (first | (go_at_call 29; (with_reducible refine (HE.out _ _ HB.out GE.out HR.out).mono ?_); rintro e w' ⟨rfl, hr, hb⟩; have n0_ := Aside0.mk hr; have n1_ := Aside0.mk hb; clear HR HB hr hb; have HR := n0_; have HB := n1_; clear n0_ n1_) | (go_at_call 27; (with_reducible refine (HS2.out _ _ HB.out GE.out HR.out).mono ?_); rintro e w' ⟨rfl, hr, hb⟩; have n0_ := Aside0.mk hr; have n1_ := Aside0.mk hb; clear HR HB hr hb; have HR := n0_; have HB := n1_; clear n0_ n1_; have zz : w'.cell? ⟨g1, 0, none⟩ = some (.string s6) := by rw [← HS6.out]; exact (blk_cell HR.out 0).trans rfl) | (go_at_call 31; (with_reducible refine (HF.out _).mono ?_); rintro e w' ⟨rfl, hb⟩; have n1_ := Aside0.mk (below_step HB.out hb); clear HB hb; have HB := n1_; clear n1_))
    go_ret2
    exact ⟨by rw [← HRES.out, if_neg HC.out]; rfl, HB.out⟩
 ·have hp' : qp l = false := by cases e : qp l with | true => exact absurd e hp | false => rfl
  have hnB : qB l = [] := by unfold qB; rw [hp']; rfl
  have m1 : after [46] (q2 l) = q2 l := by unfold after; rw [if_neg (by rw [n4]; exact hp)]
  have m3 : q2 l = q3 l := by unfold q3; rw [hp']; rfl
  rw [m1, hp', m3] at HP
  rw [m3] at HD1
  have c8 : sA = sAB := by rw [← hsA, ← hsAB, hnB, List.append_nil]
  have c8' : zB = 0 := by rw [← hzB, hlB, hnB]; rfl
  subst c8 c8'
  have c9 : ¬ 9223372036854775807 < sA.size := by omega
  have w3 : ex = e' := by omega
  subst w3
  have c7 : sA ++ ⟨#[]⟩ = sA := by apply ByteArray.ext; simp
  have w6 : wrap64 ex = ex := i64_id (by omega) (by omega)
  have w7 : IntKind.i64.wrap ex = ex := (i64_w _).trans w6
  clear m3 hp' hnB HD2 hAB c4 w1 w2 hzB hexb hzB' k1 k2 k3 hql h h2 h3 ht hp46 hp4 n1 n2 n3 n4 n5 n6 n7 n8 n9 hs hneg hABl hsAB hsA hsB hp m1 hlA hlB hs6 he' hsx
  go_enter Tryz.func10, Tryz.ntmps10
  go_upto_region 14 with (first | (go_at_call 26; (with_reducible refine (HT.out _).mono ?_); rintro e w' ⟨rfl, hw⟩; have n0_ := Aside0.mk (below_or HB.out hw); clear HB hw; have HB := n0_; clear n0_) | ((with_reducible refine gate_dst (N := 26) rfl ?_); refine box_event ?hg (N := 26) ?hd (cs := #[.string s]) (t := 46) ?hr ?_; (case hd => rfl); (case hg => rfl); (case hr => first | (go_simp; done) | (go_simp; rfl)); intro g1 hg w4 hbox hb; have n0_ := Aside0.mk (show Rd w4 g1 l by unfold Rd; rw [HSE.out]; exact hbox); have n2_ := Aside0.mk ((by rw [hg]; exact (below_size HB.out)) : w.heap.size ≤ g1); have n1_ := Aside0.mk (below_step HB.out hb); clear HB; have HB := n1_; have HR := n0_; have GE := n2_; clear n0_ n1_ n2_; clear hb hbox hg) | (go_at_call 27; (with_reducible refine (HS1.out _ _ HB.out GE.out HR.out).mono ?_); rintro e w' ⟨rfl, hr, hb⟩; have n0_ := Aside0.mk hr; have n1_ := Aside0.mk hb; clear HR HB hr hb; have HR := n0_; have HB := n1_; clear n0_ n1_) | (go_at_call 28; (with_reducible refine (HD1.out _ _ HB.out GE.out HR.out).mono ?_); rintro e w' ⟨rfl, hr, hb⟩; have n0_ := Aside0.mk hr; have n1_ := Aside0.mk hb; clear HR HB hr hb; have HR := n0_; have HB := n1_; clear n0_ n1_) | (go_at_call 29; (with_reducible refine (HP.out _ _ HB.out GE.out HR.out).mono ?_); rintro e w' ⟨rfl, hr, hb⟩; have n0_ := Aside0.mk hr; have n1_ := Aside0.mk hb; clear HR HB hr hb; have HR := n0_; have HB := n1_; clear n0_ n1_))
  by_cases hes : (qE l || qS l) = true
  ·have hq6 : q6 l = past (q5 l) := by unfold q6; rw [if_pos hes]
   rw [hq6] at HS6
   have hx : expo (qm l) (dg (q5 l)) = ex := by rw [← HEX.out]; unfold qx; rw [if_pos hes]
   rw [hx] at HX
   cases hE : qE l with
   | true =>
    rw [hE] at HE
    clear hE hx
    by_cases h6 : past (q5 l) = []
    ·have d1 : s6.toList = [] := by rw [hl6.out]; exact hq6.trans h6
     have d2 : s6.toList.isEmpty = true := by rw [d1]; rfl
     have HC := Aside0.mk (show q6 l = [] from hq6.trans h6)
     clear h6 hq6 hes
     go_wp2_with (first | (go_at_call 29; (with_reducible refine (HE.out _ _ HB.out GE.out HR.out).mono ?_); rintro e w' ⟨rfl, hr, hb⟩; have n0_ := Aside0.mk hr; have n1_ := Aside0.mk hb; clear HR HB hr hb; have HR := n0_; have HB := n1_; clear n0_ n1_) | (go_at_call 27; (with_reducible refine (HS2.out _ _ HB.out GE.out HR.out).mono ?_); rintro e w' ⟨rfl, hr, hb⟩; have n0_ := Aside0.mk hr; have n1_ := Aside0.mk hb; clear HR HB hr hb; have HR := n0_; have HB := n1_; clear n0_ n1_) | (go_at_call 28; (with_reducible refine (HD3.out _ _ HB.out GE.out HR.out).mono ?_); rintro e w' ⟨rfl, hr, hb⟩; have n0_ := Aside0.mk hr; have n1_ := Aside0.mk hb; clear HR HB hr hb; have HR := n0_; have HB := n1_; clear n0_ n1_) | (go_at_call 30; (with_reducible refine (HX.out _).mono ?_); rintro e w' ⟨rfl, hb⟩; have n0_ := Aside0.mk (show Rd _ g1 _ from blk_below HR.out hb); have n1_ := Aside0.mk (below_step HB.out hb); clear HR HB hb; have HR := n0_; have HB := n1_; clear n0_ n1_; have zz : w'.cell? ⟨g1, 0, none⟩ = some (.string s6) := by rw [← HS6.out]; exact (blk_cell HR.out 0).trans rfl) | (go_at_call 31; (with_reducible refine (HF.out _).mono ?_); rintro e w' ⟨rfl, hb⟩; have n1_ := Aside0.mk (below_step HB.out hb); clear HB hb; have HB := n1_; clear n1_))
     go_ret2
     exact ⟨by rw [← HRES.out, if_pos HC.out]; rfl, HB.out⟩
    ·have d1 : ¬ s6.toList = [] := by rw [hl6.out]; exact fun h => h6 (hq6.symm.trans h)
     have d2 : s6.toList.isEmpty = false := by
      cases e : s6.toList with
      | nil => exact absurd e d1
      | cons a b => rfl
     have HC := Aside0.mk (show ¬ q6 l = [] from fun h => h6 (hq6.symm.trans h))
     clear h6 hq6 hes
     go_wp2_with (first | (go_at_call 29; (with_reducible refine (HE.out _ _ HB.out GE.out HR.out).mono ?_); rintro e w' ⟨rfl, hr, hb⟩; have n0_ := Aside0.mk hr; have n1_ := Aside0.mk hb; clear HR HB hr hb; have HR := n0_; have HB := n1_; clear n0_ n1_) | (go_at_call 27; (with_reducible refine (HS2.out _ _ HB.out GE.out HR.out).mono ?_); rintro e w' ⟨rfl, hr, hb⟩; have n0_ := Aside0.mk hr; have n1_ := Aside0.mk hb; clear HR HB hr hb; have HR := n0_; have HB := n1_; clear n0_ n1_) | (go_at_call 28; (with_reducible refine (HD3.out _ _ HB.out GE.out HR.out).mono ?_); rintro e w' ⟨rfl, hr, hb⟩; have n0_ := Aside0.mk hr; have n1_ := Aside0.mk hb; clear HR HB hr hb; have HR := n0_; have HB := n1_; clear n0_ n1_) | (go_at_call 30; (with_reducible refine (HX.out _).mono ?_); rintro e w' ⟨rfl, hb⟩; have n0_ := Aside0.mk (show Rd _ g1 _ from blk_below HR.out hb); have n1_ := Aside0.mk (below_step HB.out hb); clear HR HB hb; have HR := n0_; have HB := n1_; clear n0_ n1_; have zz : w'.cell? ⟨g1, 0, none⟩ = some (.string s6) := by rw [← HS6.out]; exact (blk_cell HR.out 0).trans rfl) | (go_at_call 31; (with_reducible refine (HF.out _).mono ?_); rintro e w' ⟨rfl, hb⟩; have n1_ := Aside0.mk (below_step HB.out hb); clear HB hb; have HB := n1_; clear n1_))
     go_ret2
     exact ⟨by rw [← HRES.out, if_neg HC.out]; rfl, HB.out⟩
   | false =>
    have hS : qS l = true := by rw [hE, Bool.false_or] at hes; exact hes
    rw [hE] at HE
    rw [hS] at HS2
    clear hE hx hS
    by_cases h6 : past (q5 l) = []
    ·have d1 : s6.toList = [] := by rw [hl6.out]; exact hq6.trans h6
     have d2 : s6.toList.isEmpty = true := by rw [d1]; rfl
     have HC := Aside0.mk (show q6 l = [] from hq6.trans h6)
     clear h6 hq6 hes
     go_wp2_with (first | (go_at_call 29; (with_reducible refine (HE.out _ _ HB.out GE.out HR.out).mono ?_); rintro e w' ⟨rfl, hr, hb⟩; have n0_ := Aside0.mk hr; have n1_ := Aside0.mk hb; clear HR HB hr hb; have HR := n0_; have HB := n1_; clear n0_ n1_) | (go_at_call 27; (with_reducible refine (HS2.out _ _ HB.out GE.out HR.out).mono ?_); rintro e w' ⟨rfl, hr, hb⟩; have n0_ := Aside0.mk hr; have n1_ := Aside0.mk hb; clear HR HB hr hb; have HR := n0_; have HB := n1_; clear n0_ n1_) | (go_at_call 28; (with_reducible refine (HD3.out _ _ HB.out GE.out HR.out).mono ?_); rintro e w' ⟨rfl, hr, hb⟩; have n0_ := Aside0.mk hr; have n1_ := Aside0.mk hb; clear HR HB hr hb; have HR := n0_; have HB := n1_; clear n0_ n1_) | (go_at_call 30; (with_reducible refine (HX.out _).mono ?_); rintro e w' ⟨rfl, hb⟩; have n0_ := Aside0.mk (show Rd _ g1 _ from blk_below HR.out hb); have n1_ := Aside0.mk (below_step HB.out hb); clear HR HB hb; have HR := n0_; have HB := n1_; clear n0_ n1_; have zz : w'.cell? ⟨g1, 0, none⟩ = some (.string s6) := by rw [← HS6.out]; exact (blk_cell HR.out 0).trans rfl) | (go_at_call 31; (with_reducible refine (HF.out _).mono ?_); rintro e w' ⟨rfl, hb⟩; have n1_ := Aside0.mk (below_step HB.out hb); clear HB hb; have HB := n1_; clear n1_))
     go_ret2
     exact ⟨by rw [← HRES.out, if_pos HC.out]; rfl, HB.out⟩
    ·have d1 : ¬ s6.toList = [] := by rw [hl6.out]; exact fun h => h6 (hq6.symm.trans h)
     have d2 : s6.toList.isEmpty = false := by
      cases e : s6.toList with
      | nil => exact absurd e d1
      | cons a b => rfl
     have HC := Aside0.mk (show ¬ q6 l = [] from fun h => h6 (hq6.symm.trans h))
     clear h6 hq6 hes
     go_wp2_with (first | (go_at_call 29; (with_reducible refine (HE.out _ _ HB.out GE.out HR.out).mono ?_); rintro e w' ⟨rfl, hr, hb⟩; have n0_ := Aside0.mk hr; have n1_ := Aside0.mk hb; clear HR HB hr hb; have HR := n0_; have HB := n1_; clear n0_ n1_) | (go_at_call 27; (with_reducible refine (HS2.out _ _ HB.out GE.out HR.out).mono ?_); rintro e w' ⟨rfl, hr, hb⟩; have n0_ := Aside0.mk hr; have n1_ := Aside0.mk hb; clear HR HB hr hb; have HR := n0_; have HB := n1_; clear n0_ n1_) | (go_at_call 28; (with_reducible refine (HD3.out _ _ HB.out GE.out HR.out).mono ?_); rintro e w' ⟨rfl, hr, hb⟩; have n0_ := Aside0.mk hr; have n1_ := Aside0.mk hb; clear HR HB hr hb; have HR := n0_; have HB := n1_; clear n0_ n1_) | (go_at_call 30; (with_reducible refine (HX.out _).mono ?_); rintro e w' ⟨rfl, hb⟩; have n0_ := Aside0.mk (show Rd _ g1 _ from blk_below HR.out hb); have n1_ := Aside0.mk (below_step HB.out hb); clear HR HB hb; have HR := n0_; have HB := n1_; clear n0_ n1_; have zz : w'.cell? ⟨g1, 0, none⟩ = some (.string s6) := by rw [← HS6.out]; exact (blk_cell HR.out 0).trans rfl) | (go_at_call 31; (with_reducible refine (HF.out _).mono ?_); rintro e w' ⟨rfl, hb⟩; have n1_ := Aside0.mk (below_step HB.out hb); clear HB hb; have HB := n1_; clear n1_))
     go_ret2
     exact ⟨by rw [← HRES.out, if_neg HC.out]; rfl, HB.out⟩
  ·have hes' : (qE l || qS l) = false := by cases e : (qE l || qS l) with | true => exact absurd e hes | false => rfl
   have hq6 : q6 l = q5 l := by unfold q6; rw [if_neg hes]
   rw [hq6] at HS6
   have hE : qE l = false := (Bool.or_eq_false_iff.1 hes').1
   have hS : qS l = false := (Bool.or_eq_false_iff.1 hes').2
   have hx : ex = 0 := by rw [← HEX.out]; unfold qx; rw [if_neg hes]
   clear HEX
   subst hx
   rw [hE] at HE
   rw [hS] at HS2
   clear hE hS hes' HX HD3
   by_cases h6 : q5 l = []
   ·have d1 : s6.toList = [] := by rw [hl6.out]; exact hq6.trans h6
    have d2 : s6.toList.isEmpty = true := by rw [d1]; rfl
    have HC := Aside0.mk (show q6 l = [] from hq6.trans h6)
    clear h6 hq6 hes
    go_wp2_with (first | (go_at_call 29; (with_reducible refine (HE.out _ _ HB.out GE.out HR.out).mono ?_); rintro e w' ⟨rfl, hr, hb⟩; have n0_ := Aside0.mk hr; have n1_ := Aside0.mk hb; clear HR HB hr hb; have HR := n0_; have HB := n1_; clear n0_ n1_) | (go_at_call 27; (with_reducible refine (HS2.out _ _ HB.out GE.out HR.out).mono ?_); rintro e w' ⟨rfl, hr, hb⟩; have n0_ := Aside0.mk hr; have n1_ := Aside0.mk hb; clear HR HB hr hb; have HR := n0_; have HB := n1_; clear n0_ n1_; have zz : w'.cell? ⟨g1, 0, none⟩ = some (.string s6) := by rw [← HS6.out]; exact (blk_cell HR.out 0).trans rfl) | (go_at_call 31; (with_reducible refine (HF.out _).mono ?_); rintro e w' ⟨rfl, hb⟩; have n1_ := Aside0.mk (below_step HB.out hb); clear HB hb; have HB := n1_; clear n1_))
    go_ret2
    exact ⟨by rw [← HRES.out, if_pos HC.out]; rfl, HB.out⟩
   ·have d1 : ¬ s6.toList = [] := by rw [hl6.out]; exact fun h => h6 (hq6.symm.trans h)
    have d2 : s6.toList.isEmpty = false := by
     cases e : s6.toList with
     | nil => exact absurd e d1
     | cons a b => rfl
    have HC := Aside0.mk (show ¬ q6 l = [] from fun h => h6 (hq6.symm.trans h))
    clear h6 hq6 hes
    go_wp2_with (first | (go_at_call 29; (with_reducible refine (HE.out _ _ HB.out GE.out HR.out).mono ?_); rintro e w' ⟨rfl, hr, hb⟩; have n0_ := Aside0.mk hr; have n1_ := Aside0.mk hb; clear HR HB hr hb; have HR := n0_; have HB := n1_; clear n0_ n1_) | (go_at_call 27; (with_reducible refine (HS2.out _ _ HB.out GE.out HR.out).mono ?_); rintro e w' ⟨rfl, hr, hb⟩; have n0_ := Aside0.mk hr; have n1_ := Aside0.mk hb; clear HR HB hr hb; have HR := n0_; have HB := n1_; clear n0_ n1_; have zz : w'.cell? ⟨g1, 0, none⟩ = some (.string s6) := by rw [← HS6.out]; exact (blk_cell HR.out 0).trans rfl) | (go_at_call 31; (with_reducible refine (HF.out _).mono ?_); rintro e w' ⟨rfl, hb⟩; have n1_ := Aside0.mk (below_step HB.out hb); clear HB hb; have HB := n1_; clear n1_))
    go_ret2
    exact ⟨by rw [← HRES.out, if_neg HC.out]; rfl, HB.out⟩
theorem d_Parse (w : World) (l : List UInt8) :
  Calls Tryz.prog 10 #[.string (bs l)] w fun e w' => e = .returned (.tuple #[.int .u64 ((parseN l).1 : Nat), .bool (parseN l).2]) ∧ Below w.heap.size w w' := by
 unfold parseN
 by_cases h : 400 < l.length
 ·rw [if_pos h]; exact d_Parse_long w l h
 rw [if_neg h]
 by_cases h2 : l.all (· == 32) = true
 ·rw [if_pos h2]; exact d_Parse_blank w l (by omega) h2
 rw [if_neg h2]
 by_cases h3 : qA l ++ qB l = []
 ·rw [if_pos h3]; exact d_Parse_none w l (by omega) h2 h3
 rw [if_neg h3]
 have k := d_Parse_some w l (by omega) h2 h3 _ rfl
 by_cases h4 : q6 l = []
 ·rw [if_pos h4] at k ⊢; exact k
 ·rw [if_neg h4] at k ⊢; exact k
end Go.Proofs.YtdoeigngpemcgaaGreatDoor.Dec
namespace Go.Proofs.YtdoeigngpemcgaaGreatDoor.Dec
open Go.RowKit Go.Flt Go.Read Go.Proofs.YtdoeigngpemcgaaGreatDoor.PDec Go.Proofs.YtdoeigngpemcgaaGreatDoor.Pure Go.Proofs.YtdoeigngpemcgaaGreatDoorW.PrintWords Go.Proofs.YtdoeigngpemcgaaGreatDoorW.PrintLast Go.Proofs.YtdoeigngpemcgaaGreatDoorW.PrintMore
set_option linter.unusedVariables false
set_option linter.unusedSimpArgs false
theorem awake_parse : parseN [49, 46, 53, 69, 51] = (4654311885213007872, true) := by kernel_rfl
theorem awake_dex : Dex (fmant 4654311885213007872) (fpow 4654311885213007872) 4 := ⟨by kernel_rfl, by kernel_rfl⟩
theorem awake_fixed : shownV 4654311885213007872 (fixedV (repText 4654311885213007872 (many 6)) (repExp 4654311885213007872 (many 6)) (many 6)) = [49, 53, 48, 48, 46, 48, 48] := by
 unfold repText repExp
 rw [dex_eq awake_dex]
 kernel_rfl
set_option maxHeartbeats 4000000 in
set_option maxRecDepth 100000 in
theorem awake_any (w : World) : Calls Tryz.prog 12 #[] w fun e w' => e = .returned (.bool true) ∧ Below w.heap.size w w' := by
 have HP : Aside0 (∀ w, Calls Tryz.prog 10 #[.string ⟨#[49, 46, 53, 69, 51]⟩] w fun e w' => e = .returned (.tuple #[.int .u64 4654311885213007872, .bool true]) ∧ Below w.heap.size w w') := ⟨fun w => by
  have h := d_Parse w [49, 46, 53, 69, 51]
  rw [awake_parse] at h
  exact h⟩
 have HF : Aside0 (∀ w, Calls Tryz.prog 20 #[.int .u64 4654311885213007872, .int .i64 6] w fun x w' => x = .returned (.string ⟨#[49, 53, 48, 48, 46, 48, 48]⟩) ∧ Below w.heap.size w w') := ⟨fun w => by
  have h := d_Fixed w 4654311885213007872 (by decide) 6
  rw [awake_fixed] at h
  exact h⟩
 have HB := Aside0.mk (Below.refl w.heap.size w)
 go_enter Tryz.func12, Tryz.ntmps12
 go_wp2_with (first | (go_at_call 10; (with_reducible refine (HP.out _).mono ?_); rintro q w' ⟨rfl, hb⟩; have n0_ := Aside0.mk (below_step HB.out hb); clear HB hb; have HB := n0_; clear n0_) | (go_at_call 20; (with_reducible refine (HF.out _).mono ?_); rintro q w' ⟨rfl, hb⟩; have n0_ := Aside0.mk (below_step HB.out hb); clear HB hb; have HB := n0_; clear n0_))
 go_ret
 exact ⟨rfl, HB.out⟩
end Go.Proofs.YtdoeigngpemcgaaGreatDoor.Dec
namespace Go.Proofs.YtdoeigngpemcgaaGreatDoor.Dec
open Go.RowKit Go.Proofs.YtdoeigngpemcgaaGreatDoor.PNat Go.Proofs.YtdoeigngpemcgaaGreatDoor.Pure Go.Proofs.YtdoeigngpemcgaaGreatDoorW.PrintWords Go.Proofs.YtdoeigngpemcgaaGreatDoorW.PrintLast Go.Proofs.YtdoeigngpemcgaaGreatDoorW.PrintMore
section
variable {w : World} {v u : Value} {a b : Nat}
theorem r_Text (h0 : Nm w v a) (fa : Fit a) :
  Calls Tryz.prog 47 #[v] w fun e w' => e = .returned (.string ⟨(Num.textN a).toArray⟩) ∧ Below w.heap.size w w' := by
 obtain ⟨A, c, rfl, l0, g0, _⟩ := h0.open
 have he := ev_rtext (Num.wordsN a) (Num.wordsN_ok a) (by unfold Fit at fa; omega)
 rw [Num.wordsN_val] at he
 obtain ⟨k, hk⟩ := Ev.at he
 exact bobbinref2_Text.calls k _ _ _ _ w g0 l0 hk
theorem r_Norm {A : Option Addr} {c : Nat} {l : List Int} (hr : Kd.C (Kd.int .u32) w A l.length l) (hc : l.length ≤ c) (ok : Num.okW l) (hl : l.length ≤ 100000) :
  Calls Tryz.prog 99 #[.slice A l.length c] w fun e w' => ∃ r, e = .returned r ∧ Nm w' r (Num.valN l) ∧ Below w.heap.size w w' := by
 have he := ev_rnorm l (by omega)
 rw [Num.trim_words ok] at he
 obtain ⟨k, hk⟩ := Ev.at he
 refine (bobbinref2_Norm.calls k _ _ _ _ w hr hc hk).mono ?_
 rintro e w' ⟨v, rfl, h1, h2⟩
 exact ⟨v, rfl, Nm.of_R h1, h2⟩
theorem Ev.same {α : Type} {f : Nat → Option α} {x y : α} (h : Ev f x) (k : Ev f y) : x = y := by
 obtain ⟨K, hK⟩ := h
 obtain ⟨M, hM⟩ := k
 have h1 := hK (max K M) (Nat.le_max_left _ _)
 rw [hM (max K M) (Nat.le_max_right _ _)] at h1
 exact (Option.some.inj h1).symm
end
end Go.Proofs.YtdoeigngpemcgaaGreatDoor.Dec
namespace Go.Read
open Go.Proofs.YtdoeigngpemcgaaGreatDoor
/-- a number's decimal text -/
def decT (n : Int) : List UInt8 := if n < 0 then 45 :: Num.textN n.natAbs else Num.textN n.toNat
end Go.Read
namespace Go.Proofs.YtdoeigngpemcgaaGreatDoor.Dec
open Go.RowKit Go.Read Go.Proofs.YtdoeigngpemcgaaGreatDoor.Pure Go.Proofs.YtdoeigngpemcgaaGreatDoorW.PrintWords Go.Proofs.YtdoeigngpemcgaaGreatDoorW.PrintLast Go.Proofs.YtdoeigngpemcgaaGreatDoorW.PrintMore
set_option linter.unusedVariables false
set_option linter.unusedSimpArgs false
set_option maxHeartbeats 4000000 in
set_option maxRecDepth 100000 in
theorem r_Of (w : World) (v : Nat) (hv : v < 18446744073709551616) : Calls Tryz.prog 42 #[.int .u64 (v : Int)] w fun e w' => ∃ r, e = .returned r ∧ Nm w' r v ∧ Below w.heap.size w w' := by
 obtain ⟨m, hm⟩ : ∃ z : Int, (v : Int) = z := ⟨_, rfl⟩
 obtain ⟨lo, hlo⟩ : ∃ z : Int, m % 4294967296 = z := ⟨_, rfl⟩
 obtain ⟨hi, hhi⟩ : ∃ z : Int, m / 4294967296 = z := ⟨_, rfl⟩
 have hhi2 : hi % 4294967296 = hi := by omega
 have HNorm : Aside0 (∀ w x, Kd.V (Kd.int .u32) 35 w 0 (fun _ => True) x [lo, hi] → Calls Tryz.prog 99 #[x] w fun e w' => ∃ r, e = .returned r ∧ Nm w' r v ∧ Below w.heap.size w w') := ⟨fun w x hx => by
  obtain ⟨A, c, rfl⟩ := Kd.V_slice hx
  obtain ⟨_, h2, h3⟩ := Kd.V_reads' hx
  have := r_Norm (l := [lo, hi]) h3 h2 (by intro x hx; simp at hx; rcases hx with rfl | rfl <;> omega) (by simp)
  rw [show Num.valN [lo, hi] = v by simp [Num.valN]; omega] at this
  exact this⟩
 have u1 : IntKind.u32.wrap m = lo := by rw [IntKind.wrap_u32]; exact hlo
 have u2 : IntKind.u32.wrap hi = hi := by rw [IntKind.wrap_u32]; exact hhi2
 have HB := Aside0.mk (Below.refl w.heap.size w)
 rw [hm]
 clear hv hm hhi2
 go_enter Tryz.func42, Tryz.ntmps42
 go_wp2_with (go_at_call 99; (refine (HNorm.out _ _ (two_V _ lo hi)).mono ?_); rintro e w2 ⟨r, rfl, hr, hb⟩; have hr' := Aside0.mk hr; have n0_ := Aside0.mk (below_step (below_alloc HB.out _) hb); clear hr HB hb; have HB := n0_; clear n0_)
 go_ret
 exact ⟨_, rfl, hr'.out, HB.out⟩
set_option maxHeartbeats 4000000 in
set_option maxRecDepth 100000 in
theorem r_Decimal (w : World) (n : Int) (h0 : -9223372036854775808 ≤ n) (h1 : n ≤ 9223372036854775807) : Calls Tryz.prog 15 #[.int .i64 n] w fun e w' => e = .returned (.string (bs (decT n))) ∧ Below w.heap.size w w' := by
 unfold decT
 have HB := Aside0.mk (Below.refl w.heap.size w)
 have ft : ∀ a : Nat, a < 18446744073709551616 → Fit a := fun a h => fit_lt (b := 64) h (by omega)
 by_cases h : n < 0
 ·have c1 := decide_eq_true h
  rw [if_pos h]
  obtain ⟨a, ha⟩ : ∃ a : Nat, n.natAbs = a := ⟨_, rfl⟩
  have hab : a < 18446744073709551616 := by omega
  have HO := Aside0.mk (fun w => r_Of w a hab)
  have HX := Aside0.mk (fun (w : World) (v : Value) (h : Nm w v a) => r_Text h (ft a hab))
  rw [ha]
  obtain ⟨x, hx⟩ : ∃ x : Int, (a : Int) = x := ⟨_, rfl⟩
  rw [hx] at HO
  obtain ⟨un, hun⟩ : ∃ z : Int, n % 18446744073709551616 = z := ⟨_, rfl⟩
  have u1 : IntKind.u64.wrap n = un := by rw [IntKind.wrap_u64]; exact hun
  have u2 : IntKind.u64.wrap (-un) = x := by rw [IntKind.wrap_u64]; omega
  obtain ⟨t, ht⟩ : ∃ z : ByteArray, (⟨(Num.textN a).toArray⟩ : ByteArray) = z := ⟨_, rfl⟩
  rw [ht] at HX
  have hcat : ⟨#[45]⟩ ++ t = bs (45 :: Num.textN a) := by rw [← ht]; apply ByteArray.ext; simp [bs]
  have hsz : ¬ 9223372036854775807 < 1 + t.size := by
   have := Pure.textN_len a 4 (by omega)
   rw [← ht]
   show ¬ _ < 1 + (Num.textN a).toArray.size
   rw [List.size_toArray]
   omega
  obtain ⟨u, hu⟩ : ∃ z, bs (45 :: Num.textN a) = z := ⟨_, rfl⟩
  rw [hu] at hcat ⊢
  clear h h0 h1 ha hab hx hun ht hu ft
  go_enter Tryz.func15, Tryz.ntmps15
  go_wp2_with (first | (go_at_call 42; (with_reducible refine (HO.out _).mono ?_); rintro q w' ⟨r, rfl, hr, hb⟩; have hr' := Aside0.mk hr; have n0_ := Aside0.mk (below_step HB.out hb); clear hr HB hb; have HB := n0_; clear n0_) | (go_at_call 47; (with_reducible refine (HX.out _ _ hr'.out).mono ?_); rintro q w' ⟨rfl, hb⟩; have n0_ := Aside0.mk (below_step HB.out hb); clear HB hb; have HB := n0_; clear n0_))
  go_ret
  exact ⟨rfl, HB.out⟩
 ·have c1 := decide_eq_false h
  rw [if_neg h]
  obtain ⟨a, ha⟩ : ∃ a : Nat, n.toNat = a := ⟨_, rfl⟩
  have hab : a < 18446744073709551616 := by omega
  have HO := Aside0.mk (fun w => r_Of w a hab)
  have HX := Aside0.mk (fun (w : World) (v : Value) (h : Nm w v a) => r_Text h (ft a hab))
  rw [ha]
  have hx : (a : Int) = n := by omega
  rw [hx] at HO
  have u1 : IntKind.u64.wrap n = n := by rw [IntKind.wrap_u64]; omega
  obtain ⟨t, ht⟩ : ∃ z : ByteArray, (⟨(Num.textN a).toArray⟩ : ByteArray) = z := ⟨_, rfl⟩
  have ht2 : bs (Num.textN a) = t := ht
  rw [ht] at HX
  rw [ht2]
  clear h h0 h1 ha hab hx ht ht2 ft
  go_enter Tryz.func15, Tryz.ntmps15
  go_wp2_with (first | (go_at_call 42; (with_reducible refine (HO.out _).mono ?_); rintro q w' ⟨r, rfl, hr, hb⟩; have hr' := Aside0.mk hr; have n0_ := Aside0.mk (below_step HB.out hb); clear hr HB hb; have HB := n0_; clear n0_) | (go_at_call 47; (with_reducible refine (HX.out _ _ hr'.out).mono ?_); rintro q w' ⟨rfl, hb⟩; have n0_ := Aside0.mk (below_step HB.out hb); clear HB hb; have HB := n0_; clear n0_))
  go_ret
  exact ⟨rfl, HB.out⟩
end Go.Proofs.YtdoeigngpemcgaaGreatDoor.Dec
set_option linter.unusedVariables false
set_option linter.unusedSimpArgs false
namespace Go.Read
open Go.Flt Go.Proofs.YtdoeigngpemcgaaGreatDoor Go.Proofs.YtdoeigngpemcgaaGreatDoor.Dec
/-- no digit stands first -/
def stop (l : List UInt8) : Prop := ∀ c t, l = c :: t → isd c = false
theorem dg_app {A r : List UInt8} (h : Num.digs A = true) (hr : stop r) : dg (A ++ r) = A ∧ past (A ++ r) = r := by
 induction A with
 | nil =>
  match r, hr with
  | [], _ => exact ⟨rfl, rfl⟩
  | c :: t, hr =>
   have := hr c t rfl
   unfold dg past
   rw [List.nil_append, List.takeWhile_cons, List.dropWhile_cons, this]
   exact ⟨rfl, rfl⟩
 | cons c t ih =>
  have hc : isd c = true := by
   have := Num.digs_mem h c List.mem_cons_self
   unfold isd
   rw [Bool.and_eq_true, decide_eq_true_iff, decide_eq_true_iff]
   exact this
  have ht : Num.digs t = true := by
   unfold Num.digs at *
   rw [List.all_cons, Bool.and_eq_true] at h
   exact h.2
  obtain ⟨h1, h2⟩ := ih ht
  unfold dg past at *
  rw [List.cons_append, List.takeWhile_cons, List.dropWhile_cons, if_pos hc, if_pos hc, h1, h2]
  exact ⟨rfl, rfl⟩
theorem digs_head {c : UInt8} {t : List UInt8} (h : Num.digs (c :: t) = true) : isd c = true := by
 have := Num.digs_mem h c List.mem_cons_self
 unfold isd
 rw [Bool.and_eq_true, decide_eq_true_iff, decide_eq_true_iff]
 exact this
theorem isd_not {c : UInt8} (h : isd c = true) : c ≠ 43 ∧ c ≠ 45 ∧ c ≠ 32 ∧ c ≠ 46 := by
 refine ⟨?_, ?_, ?_, ?_⟩ <;> (rintro rfl; exact absurd h (by decide))
theorem no_sign {l : List UInt8} {c : UInt8} (h : isd c = true) : after [43, 45] (c :: l) = c :: l ∧ minus (c :: l) = false ∧ hasM [43, 45] (c :: l) = false := by
 obtain ⟨h1, h2, _, _⟩ := isd_not h
 have hc : ([43, 45] : List UInt8).contains c = false := by
  simp [List.contains_cons, h1, h2]
 have e : hasM [43, 45] (c :: l) = false := hc
 refine ⟨by unfold after; rw [e]; rfl, ?_, e⟩
 show (c == 45) = false
 simpa using h2
theorem textN_cons (v : Nat) : ∃ c t, Num.textN v = c :: t ∧ isd c = true := by
 match h : Num.textN v, textN_ne v with
 | c :: t, _ =>
  refine ⟨c, t, rfl, ?_⟩
  have := Pure.textN_digs v
  rw [h] at this
  exact digs_head this
theorem past_nil {l : List UInt8} (h : Num.digs l = true) : dg l = l ∧ past l = [] := by
 have := dg_app (r := []) h (fun c t h => by cases h)
 rw [List.append_nil] at this
 exact this
theorem textN_trim_len {a : Nat} (h : a < 100000) : ¬ 5 < (trim0 (Num.textN a)).length := by
 rcases Nat.eq_zero_or_pos a with z | z
 ·subst z; decide
 ·rw [textN_trim (by omega)]
  intro k
  have h1 := (textN_pow (v := a) (by omega)).1
  have h2 : 10 ^ 5 ≤ 10 ^ ((Num.textN a).length - 1) := Nat.pow_le_pow_right (by decide) (by omega)
  omega
/-- an exponent's text is read as it should be -/
theorem read_exp (x : Int) (h0 : -100000 < x) (h1 : x < 100000) : minus (decT x) = decide (x < 0) ∧ expo (minus (decT x)) (dg (after [43, 45] (decT x))) = x ∧ past (after [43, 45] (decT x)) = [] := by
 unfold decT
 by_cases h : x < 0
 ·rw [if_pos h]
  have e1 : minus (45 :: Num.textN x.natAbs) = true := rfl
  have e2 : after [43, 45] (45 :: Num.textN x.natAbs) = Num.textN x.natAbs := rfl
  obtain ⟨p1, p2⟩ := past_nil (Pure.textN_digs x.natAbs)
  rw [e1, e2, p1]
  refine ⟨by rw [decide_eq_true h], ?_, p2⟩
  unfold expo
  rw [if_neg (textN_trim_len (by omega)), decL_trim, Pure.textN_dec]
  show -(x.natAbs : Int) = x
  omega
 ·rw [if_neg h]
  obtain ⟨c, t, hc, hd⟩ := textN_cons x.toNat
  obtain ⟨p1, p2⟩ := past_nil (Pure.textN_digs x.toNat)
  rw [hc] at p1 p2
  obtain ⟨e1, e2, _⟩ := no_sign (l := t) hd
  rw [hc, e1, e2, p1]
  refine ⟨by rw [decide_eq_false h], ?_, p2⟩
  unfold expo
  rw [← hc, if_neg (textN_trim_len (by omega)), decL_trim, Pure.textN_dec]
  show (x.toNat : Int) = x
  omega
/-- a point and digits, or nothing -/
def dot : Option (List UInt8) → List UInt8
 | none => []
 | some b => 46 :: b
/-- the text of digits, a point and an exponent -/
def sci (neg : Bool) (A : List UInt8) (B : Option (List UInt8)) (c : UInt8) (x : Int) : List UInt8 :=
 (if neg then [45] else []) ++ (A ++ (dot B ++ (c :: decT x)))
theorem parse_sci (neg : Bool) (A : List UInt8) (B : Option (List UInt8)) (c : UInt8) (x : Int) (hA : Num.digs A = true) (hA0 : A ≠ []) (hB : Num.digs (B.getD []) = true) (hc : ([69, 101, 68, 100] : List UInt8).contains c = true) (h0 : -100000 < x) (h1 : x < 100000) (hl : (sci neg A B c x).length ≤ 400) :
  parseN (sci neg A B c x) = (sg neg (flt (Num.decL 0 (A ++ B.getD [])) (x - (B.getD []).length)), true) := by
 have hcd : isd c = false := by
  simp [List.contains_cons] at hc
  rcases hc with rfl | rfl | rfl | rfl <;> decide
 have hc46 : c ≠ 46 := by rintro rfl; exact absurd hc (by decide)
 obtain ⟨a, t, rfl⟩ : ∃ a t, A = a :: t := by
  match A, hA0 with
  | a :: t, _ => exact ⟨a, t, rfl⟩
 have ha := digs_head hA
 obtain ⟨r, hr⟩ : ∃ r, dot B ++ (c :: decT x) = r := ⟨_, rfl⟩
 have e1 : q1 (sci neg (a :: t) B c x) = (a :: t) ++ r ∧ minus (sci neg (a :: t) B c x) = neg := by
  unfold sci q1
  rw [hr]
  cases neg
  ·have := no_sign (l := t ++ r) ha
   exact ⟨this.1, this.2.1⟩
  ·exact ⟨rfl, rfl⟩
 have hstop : stop r := by
  intro d s hd
  rw [hd] at hr
  cases B with
  | none =>
   have : c = d := by simpa [dot] using congrArg List.head? hr
   rw [← this]; exact hcd
  | some b =>
   have : (46 : UInt8) = d := by simpa [dot] using congrArg List.head? hr
   rw [← this]; decide
 obtain ⟨e2, e3⟩ := dg_app hA hstop
 have f2 : qA (sci neg (a :: t) B c x) = a :: t := by unfold qA; rw [e1.1]; exact e2
 have f3 : q2 (sci neg (a :: t) B c x) = r := by unfold q2; rw [e1.1]; exact e3
 have g1 : qB (sci neg (a :: t) B c x) = B.getD [] ∧ q3 (sci neg (a :: t) B c x) = c :: decT x := by
  unfold qB q3 qp
  rw [f3]
  cases B with
  | none =>
   have hm : hasM [46] r = false := by
    rw [← hr]
    show ([46] : List UInt8).contains c = false
    simp [List.contains_cons, hc46]
   rw [hm]
   exact ⟨rfl, hr.symm⟩
  | some b =>
   have hrr : r = 46 :: (b ++ (c :: decT x)) := hr.symm
   have hm : hasM [46] r = true := by rw [hrr]; rfl
   have := dg_app (A := b) (r := c :: decT x) hB (fun d s h => by cases h; exact hcd)
   rw [hm, hrr]
   exact this
 have hE : qE (sci neg (a :: t) B c x) = true := by unfold qE; rw [g1.2]; exact hc
 have h4 : q4 (sci neg (a :: t) B c x) = decT x := by
  unfold q4 after
  rw [g1.2, show hasM [69, 101, 68, 100] (c :: decT x) = true from hc]
  rfl
 obtain ⟨x1, x2, x3⟩ := read_exp x h0 h1
 have hx : qx (sci neg (a :: t) B c x) = x := by
  unfold qx qm q5
  rw [hE, Bool.true_or, if_pos rfl, h4]
  exact x2
 have h6 : q6 (sci neg (a :: t) B c x) = [] := by
  unfold q6 q5
  rw [hE, Bool.true_or, if_pos rfl, h4]
  exact x3
 have hall : ¬ (sci neg (a :: t) B c x).all (· == 32) = true := by
  unfold sci
  cases neg
  ·intro h
   have h32 := (isd_not ha).2.2.1
   simp at h
   exact h32 h.1
  ·intro h
   simp at h
 unfold parseN
 rw [if_neg (by omega), if_neg hall, f2, g1.1, if_neg (by simp), if_pos h6, e1.2, hx]
end Go.Read
namespace Go.Flt
open Go.Num
end Go.Flt
namespace Go.Proofs.YtdoeigngpemcgaaGreatDoor.Dec
open Go.RowKit Go.Flt Go.Read Go.Proofs.YtdoeigngpemcgaaGreatDoor.PDec Go.Proofs.YtdoeigngpemcgaaGreatDoor.Pure Go.Proofs.YtdoeigngpemcgaaGreatDoorW.PrintWords Go.Proofs.YtdoeigngpemcgaaGreatDoorW.PrintLast Go.Proofs.YtdoeigngpemcgaaGreatDoorW.PrintMore
set_option linter.unusedVariables false
set_option linter.unusedSimpArgs false
theorem bs_app (a b : List UInt8) : bs a ++ bs b = bs (a ++ b) := by
 apply ByteArray.ext
 simp [bs]
theorem d_Parse_val (w : World) (l : List UInt8) (f : Nat) (b : Bool) (h : parseN l = (f, b)) : Calls Tryz.prog 10 #[.string (bs l)] w fun e w' => e = .returned (.tuple #[.int .u64 (f : Int), .bool b]) ∧ Below w.heap.size w w' := by
 have k := d_Parse w l
 rw [h] at k
 exact k
end Go.Proofs.YtdoeigngpemcgaaGreatDoor.Dec
namespace Go.Flt
open Go.Num
/-- a point moved by one place, the exponent turned for it -/
theorem flt_ten (m : Nat) (e : Int) : flt (m * 10) (e - 1) = flt m e := by
 have hp : ∀ k : Nat, 0 < 10 ^ k := fun k => Nat.pow_pos (by decide)
 unfold flt
 by_cases h0 : m = 0
 ·have h1 : m * 10 = 0 := by omega
  rw [if_pos h1, if_pos h0]
 ·have h1 : ¬ m * 10 = 0 := by omega
  rw [if_neg h1, if_neg h0]
  rcases (show 1 ≤ e ∨ e = 0 ∨ e < 0 by omega) with c | c | c
  ·have c1 : 0 ≤ e - 1 := by omega
   have c2 : 0 ≤ e := by omega
   rw [if_pos c1, if_pos c2]
   congr 1
   rw [show e.toNat = (e - 1).toNat + 1 by omega, Nat.pow_succ, Nat.mul_assoc, Nat.mul_comm 10]
  ·have c1 : ¬ 0 ≤ e - 1 := by omega
   have c2 : 0 ≤ e := by omega
   rw [if_neg c1, if_pos c2]
   refine fl_same (hp _) Nat.one_pos ?_
   rw [show (-(e - 1)).toNat = 1 by omega, show e.toNat = 0 by omega, Nat.pow_one, Nat.pow_zero, Nat.mul_one, Nat.mul_one]
  ·have c1 : ¬ 0 ≤ e - 1 := by omega
   have c2 : ¬ 0 ≤ e := by omega
   rw [if_neg c1, if_neg c2]
   refine fl_same (hp _) (hp _) ?_
   rw [show (-(e - 1)).toNat = (-e).toNat + 1 by omega, Nat.pow_succ, Nat.mul_assoc, Nat.mul_comm 10]
end Go.Flt
namespace Go.Proofs.YtdoeigngpemcgaaGreatDoor.Dec
open Go.RowKit Go.Flt Go.Read Go.Proofs.YtdoeigngpemcgaaGreatDoor.PDec Go.Proofs.YtdoeigngpemcgaaGreatDoor.Pure Go.Proofs.YtdoeigngpemcgaaGreatDoorW.PrintWords Go.Proofs.YtdoeigngpemcgaaGreatDoorW.PrintLast Go.Proofs.YtdoeigngpemcgaaGreatDoorW.PrintMore
set_option linter.unusedVariables false
set_option linter.unusedSimpArgs false
end Go.Proofs.YtdoeigngpemcgaaGreatDoor.Dec
namespace Go.Read
open Go.Flt Go.Proofs.YtdoeigngpemcgaaGreatDoor Go.Proofs.YtdoeigngpemcgaaGreatDoor.Dec
theorem dec_inj : ∀ (l m : List UInt8), Num.digs l = true → Num.digs m = true → l.length = m.length → Num.decL 0 l = Num.decL 0 m → l = m
 | [], [], _, _, _, _ => rfl
 | [], _ :: _, _, _, h, _ => by cases h
 | _ :: _, [], _, _, h, _ => by cases h
 | a :: s, b :: t, hl, hm, h, e => by
  have ha := Num.digs_mem hl a List.mem_cons_self
  have hb := Num.digs_mem hm b List.mem_cons_self
  have hs : Num.digs s = true := by unfold Num.digs at *; rw [List.all_cons, Bool.and_eq_true] at hl; exact hl.2
  have ht : Num.digs t = true := by unfold Num.digs at *; rw [List.all_cons, Bool.and_eq_true] at hm; exact hm.2
  have hst : s.length = t.length := by simpa using h
  have e1 : Num.decL 0 (a :: s) = (a.toNat - 48) * 10 ^ t.length + Num.decL 0 s := by
   show Num.decL (0 * 10 + (a.toNat - 48)) s = _
   rw [Num.decL_acc, hst, Nat.zero_mul, Nat.zero_add]
  have e2 : Num.decL 0 (b :: t) = (b.toNat - 48) * 10 ^ t.length + Num.decL 0 t := by
   show Num.decL (0 * 10 + (b.toNat - 48)) t = _
   rw [Num.decL_acc, Nat.zero_mul, Nat.zero_add]
  have l1 := Num.decL_lt s (Num.digs_mem hs)
  have l2 := Num.decL_lt t (Num.digs_mem ht)
  rw [hst] at l1
  have hq : a.toNat - 48 = b.toNat - 48 := by
   have p := Nat.pow_pos (n := t.length) (show 0 < 10 by decide)
   have q1 : Num.decL 0 (a :: s) / 10 ^ t.length = a.toNat - 48 := by
    rw [e1, Nat.add_comm, Nat.add_mul_div_right _ _ p, Nat.div_eq_of_lt l1, Nat.zero_add]
   have q2 : Num.decL 0 (b :: t) / 10 ^ t.length = b.toNat - 48 := by
    rw [e2, Nat.add_comm, Nat.add_mul_div_right _ _ p, Nat.div_eq_of_lt l2, Nat.zero_add]
   rw [← q1, ← q2, e]
  have hab : a = b := UInt8.toNat_inj.1 (by omega)
  subst hab
  rw [e1, e2] at e
  rw [dec_inj s t hs ht hst (by omega)]
theorem digit_nat {d : Nat} (h : d < 10) : (UInt8.ofNat (48 + d)).toNat = 48 + d := by
 rw [UInt8.toNat_ofNat']
 exact Nat.mod_eq_of_lt (by omega)
theorem decDigits_is (u : Nat) : Num.digs (Lib.decDigits u) = true ∧ Num.decL 0 (Lib.decDigits u) = u := by
 induction u using Nat.strongRecOn with
 | _ u ih =>
  have one : ∀ d, d < 10 → Num.digs [UInt8.ofNat (48 + d)] = true := fun d h => by
   unfold Num.digs
   rw [List.all_cons, List.all_nil, Bool.and_true, digit_nat h, Bool.and_eq_true, decide_eq_true_iff, decide_eq_true_iff]
   omega
  by_cases h : u < 10
  ·rw [Lib.decDigits, dif_pos h]
   refine ⟨one u h, ?_⟩
   show 0 * 10 + ((UInt8.ofNat (48 + u)).toNat - 48) = u
   rw [digit_nat h]
   omega
  ·obtain ⟨h1, h2⟩ := ih (u / 10) (by omega)
   rw [Lib.decDigits, dif_neg h]
   refine ⟨digs_app h1 (one _ (by omega)), ?_⟩
   rw [Num.decL_append, h2]
   show u / 10 * 10 + ((UInt8.ofNat (48 + u % 10)).toNat - 48) = u
   rw [digit_nat (by omega)]
   omega
theorem textN_dec10 (v : Nat) : Num.textN v = Lib.decDigits v := by
 obtain ⟨h1, h2⟩ := decDigits_is v
 refine dec_inj _ _ (Pure.textN_digs v) h1 ?_ (by rw [Pure.textN_dec, h2])
 rw [Lib.decDigits_length]
 rcases Nat.eq_zero_or_pos v with z | z
 ·subst z
  rw [Lib.nDigits_small (by decide)]
  rfl
 ·obtain ⟨a, b⟩ := textN_pow (v := v) (by omega)
  have hp := List.length_pos_iff.2 (textN_ne v)
  have := Lib.nDigits_unique ((Num.textN v).length - 1) v a (by rw [show (Num.textN v).length - 1 + 1 = (Num.textN v).length by omega]; exact b)
  omega
theorem itoa_dec (n : Int) : Lib.itoa n = decT n := by
 unfold Lib.itoa decT
 rw [textN_dec10, textN_dec10]
end Go.Read
namespace Go.Proofs.YtdoeigngpemcgaaGreatDoor.Dec
open Go.RowKit Go.Flt Go.Read Go.Proofs.YtdoeigngpemcgaaGreatDoor.PDec Go.Proofs.YtdoeigngpemcgaaGreatDoor.Pure Go.Proofs.YtdoeigngpemcgaaGreatDoorW.PrintWords Go.Proofs.YtdoeigngpemcgaaGreatDoorW.PrintLast Go.Proofs.YtdoeigngpemcgaaGreatDoorW.PrintMore
set_option linter.unusedVariables false
set_option linter.unusedSimpArgs false
/-- the table of strconv's powers reads as it should, from w0 on -/
def Pow (w0 : World) : Prop := Lib.TabBelow Tryz.prog w0.heap.size w0 "internal/strconv.uint64pow10" .u64 Lib.pow10Tab
theorem d_Itoa (w0 : World) (HT : Pow w0) (n : Int) (h0 : -9223372036854775808 ≤ n) (h1 : n ≤ 9223372036854775807) (w : World) (HB : Below w0.heap.size w0 w) :
  Calls Tryz.prog 51 #[.int .i64 n] w fun e w' => e = .returned (.string (bs (decT n))) ∧ Below w.heap.size w w' := by
 refine (Tryz.strconv_Itoa n h0 h1 w (HT w HB)).mono ?_
 rintro e w' ⟨rfl, k, os, rfl⟩
 rw [itoa_dec]
 exact ⟨rfl, Lib.below_grow w.heap.size w (Nat.le_refl _) k os⟩
/-- one digit ahead of the point -/
def sciV (d : List UInt8) (e : Int) (z : Bool) : List UInt8 := [d.take 1, [46], d.drop 1, [69], decT (if z then 0 else e - 1)].flatten
theorem decT_short (n : Int) (h0 : -9223372036854775808 ≤ n) (h1 : n ≤ 9223372036854775807) : (decT n).length ≤ 38 := by
 unfold decT
 split
 ·rw [List.length_cons]
  have := Pure.textN_len n.natAbs 4 (by omega)
  omega
 ·have := Pure.textN_len n.toNat 4 (by omega)
  omega
set_option maxHeartbeats 8000000 in
set_option maxRecDepth 100000 in
theorem d_science (w0 : World) (HT : Pow w0) (w : World) (HB0 : Below w0.heap.size w0 w) (d : List UInt8) (e n : Int) (z : Bool) (hd : d.length ≤ 1000) (hd0 : d ≠ []) (he : -1000 ≤ e) (he2 : e ≤ 1000) :
  Calls Tryz.prog 49 #[.string (bs d), .int .i64 e, .int .i64 n, .bool z] w fun x w' => x = .returned (.string (bs (sciV d e z))) ∧ Below w.heap.size w w' := by
 unfold sciV
 obtain ⟨x, hx⟩ : ∃ x : Int, (if z then 0 else e - 1) = x := ⟨_, rfl⟩
 have hxb : -1001 ≤ x ∧ x ≤ 1000 := by rw [← hx]; split <;> omega
 rw [hx]
 have lx := decT_short x (by omega) (by omega)
 have HB := Aside0.mk (Below.refl w.heap.size w)
 have hb1 : bs [69] = ⟨#[69]⟩ := rfl
 have hb2 : bs [46] = ⟨#[46]⟩ := rfl
 have HI := Aside0.mk (fun w' (h : Below w.heap.size w w') => d_Itoa w0 HT x (by omega) (by omega) w' (HB0.trans (h.mono HB0.size)))
 have HJ := Aside0.mk (fun (W W' : World) h => d_join5 W W' (d.take 1) [46] (d.drop 1) [69] (decT x) h (by rw [List.length_take, List.length_drop]; simp; omega))
 obtain ⟨s, hs⟩ : ∃ s, bs d = s := ⟨_, rfl⟩
 obtain ⟨r, hr⟩ : ∃ s, bs [d.take 1, [46], d.drop 1, [69], decT x].flatten = s := ⟨_, rfl⟩
 obtain ⟨t, ht⟩ : ∃ s, bs (d.take 1) = s := ⟨_, rfl⟩
 obtain ⟨u, hu⟩ : ∃ s, bs (d.drop 1) = s := ⟨_, rfl⟩
 obtain ⟨v, hv⟩ : ∃ s, bs (decT x) = s := ⟨_, rfl⟩
 have hdl := List.length_pos_iff.2 hd0
 have k1 : s.extract 0 1 = t := by rw [← hs, bs_to]; exact ht
 have k2 : s.extract 1 s.size = u := by rw [← hs, bs_from]; exact hu
 have k4 : (1 : Int) ≤ (s.size : Nat) := by rw [← hs, bs_size]; omega
 have k5 : 1 ≤ s.size := by omega
 rw [hb1, hb2, ht, hu, hv, hr] at HJ
 rw [hv] at HI
 rw [hs, hr]
 have w1 : wrap64 (e - 1) = e - 1 := i64_id (by omega) (by omega)
 have w2 : IntKind.i64.wrap (e - 1) = e - 1 := (i64_w _).trans w1
 clear hb1 hb2 hs hr ht hu hv hd hd0 hdl he he2 hxb lx HT HB0
 cases z with
 | true =>
  have hx0 : x = 0 := hx.symm
  subst hx0
  clear hx
  go_enter Tryz.func49, Tryz.ntmps49
  go_upto_region 4 with (fail)
  go_region_held3 (fun w' => Below w.heap.size w w')
   (first | assumption | exact HB.out | exact below_drew (by assumption) | exact below_drew HB.out | exact below_alloc HB.out _ | exact below_drew (below_alloc HB.out _) | exact below_alloc (by assumption) _ | exact below_drew (below_alloc (by assumption) _) | exact Below.trans (by assumption) (hb_.mono (Below.size (by assumption))))
   (first | (go_at_call 51; (refine (HI.out _ (by assumption)).mono ?_); rintro q w2 ⟨rfl, hb_⟩) | (go_at_call 50; (refine (HJ.out _ _ (by repeat (first | exact Below.refl _ _ | apply below_drew))).mono ?_); rintro q w2 ⟨rfl, hb_⟩))
  go_wp2
  go_ret
  exact ⟨rfl, by assumption⟩
 | false =>
  have hx0 : e - 1 = x := hx
  rw [hx0] at w1 w2
  have w3 : wrap64 (e - 1) = x := by rw [hx0]; exact w1
  have w4 : IntKind.i64.wrap (e - 1) = x := (i64_w _).trans w3
  clear hx hx0
  go_enter Tryz.func49, Tryz.ntmps49
  go_upto_region 4 with (fail)
  go_region_held3 (fun w' => Below w.heap.size w w')
   (first | assumption | exact HB.out | exact below_drew (by assumption) | exact below_drew HB.out | exact below_alloc HB.out _ | exact below_drew (below_alloc HB.out _) | exact below_alloc (by assumption) _ | exact below_drew (below_alloc (by assumption) _) | exact Below.trans (by assumption) (hb_.mono (Below.size (by assumption))))
   (first | (go_at_call 51; (refine (HI.out _ (by assumption)).mono ?_); rintro q w2 ⟨rfl, hb_⟩) | (go_at_call 50; (refine (HJ.out _ _ (by repeat (first | exact Below.refl _ _ | apply below_drew))).mono ?_); rintro q w2 ⟨rfl, hb_⟩))
  go_wp2
  go_ret
  exact ⟨rfl, by assumption⟩
theorem sciV_len {d : List UInt8} {e : Int} {z : Bool} (hd : d.length ≤ 17) (he : -335 ≤ e) (he2 : e ≤ 343) : (sciV d e z).length ≤ 1000 := by
 have := decT_short (if z then 0 else e - 1) (by split <;> omega) (by split <;> omega)
 unfold sciV
 simp
 omega
set_option maxHeartbeats 8000000 in
set_option maxRecDepth 100000 in
theorem d_Science (w0 : World) (HT : Pow w0) (w : World) (HB0 : Below w0.heap.size w0 w) (a : Nat) (ha : a < 18446744073709551616) (n : Int) : Calls Tryz.prog 17 #[.int .u64 (a : Int), .int .i64 n] w fun x w' => x = .returned (.string (bs (shownV a (sciV (repText a (many n)) (repExp a (many n)) (zero1 (repText a (many n))))))) ∧ Below w.heap.size w w' := by
 obtain ⟨hm1, hm2⟩ := many_bound n
 have key : Calls Tryz.prog 48 #[.int .u64 (a : Int), .int .i64 n, .func (.func 49) #[] #[]] w fun x w' => x = .returned (.string (bs (shownV a (sciV (repText a (many n)) (repExp a (many n)) (zero1 (repText a (many n))))))) ∧ Below w.heap.size w w' := by
  unfold shownV
  cases hf : ffin a with
  | false => exact d_shown_odd w a ha hf n 49
  | true =>
   have hl := repText_size hf hm1
   obtain ⟨b1, b2⟩ := repExp_bound hf (many n)
   exact d_shown_science w a ha hf n _ (Nat.le_trans (sciV_len (by omega) b1 b2) (by decide)) w (Below.refl _ _) (fun w' h => d_science w0 HT w' (HB0.trans (h.mono HB0.size)) _ _ _ _ (by omega) (repText_ne hm1) (by omega) (by omega))
 have HK := Aside0.mk key
 obtain ⟨u, hu⟩ : ∃ z, bs (shownV a (sciV (repText a (many n)) (repExp a (many n)) (zero1 (repText a (many n))))) = z := ⟨_, rfl⟩
 obtain ⟨aa, haa⟩ : ∃ z : Int, (a : Int) = z := ⟨_, rfl⟩
 rw [hu, haa] at HK
 rw [hu, haa]
 clear key hu haa ha hm1 hm2 HT HB0
 go_enter Tryz.func17, Tryz.ntmps17
 go_wp2_with (go_at_call 48; (with_reducible refine HK.out.mono ?_); rintro q w' ⟨rfl, hb⟩; have HB := Aside0.mk hb; clear hb)
 go_ret
 exact ⟨rfl, HB.out⟩
end Go.Proofs.YtdoeigngpemcgaaGreatDoor.Dec
