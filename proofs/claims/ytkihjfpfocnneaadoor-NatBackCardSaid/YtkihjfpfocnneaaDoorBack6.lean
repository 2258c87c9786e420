/- The law NatBack answers true at every input, within its row's conditions. This is part 6 of 6: what the session's printing program wrote for the functions reached, and the session's own lemmas. -/
import Derived.Below
import Derived.ChangeOld
import Derived.LaidOnce
import Derived.Lay
import Derived.Lib.Strings
import Derived.OpenShut
import Derived.ProofKit
import Derived.SevenTiedAt
import Derived.ShutString
import Derived.SizedLaws
import Derived.WalkKit
import Derived.Test.YtkihjfpfocnneaaDoorBack2
import Derived.Test.YtkihjfpfocnneaaDoorBack3
import Derived.Test.YtkihjfpfocnneaaDoorBack4
import Derived.Test.YtkihjfpfocnneaaDoorBack5
import Derived.Test.YtkihjfpfocnneaaDoorCards
import Derived.Test.YtkihjfpfocnneaaDoorRows
import Derived.Test.YtkihjfpfocnneaaDoorTie
import Derived.Test.YtkihjfpfocnneaaDoorWSized
namespace Go.Proofs.YtkihjfpfocnneaaDoor.Pure
open Go.RowKit Go.Proofs.YtkihjfpfocnneaaDoor.PNat Go.Proofs.YtkihjfpfocnneaaDoorW.PrintWords Go.Proofs.YtkihjfpfocnneaaDoorW.PrintLast Go.Proofs.YtkihjfpfocnneaaDoorW.PrintMore
set_option linter.unusedVariables false
set_option linter.unusedSimpArgs false
theorem shl_val {x s : Nat} (hx : x < 4294967296) (hs : s ≤ 32) : shl .u64 (IntKind.u64.wrap (x : Int)) (s : Int) = ((x * 2 ^ s : Nat) : Int) := by
  have h1 : x * 2 ^ s ≤ 4294967295 * 2 ^ 32 := Nat.mul_le_mul (by omega) (Nat.pow_le_pow_right (by decide) hs)
  unfold shl
  rw [u64_id (x := (x : Int)) (by omega) (by omega), Int.toNat_natCast, Nat.min_eq_left (by show s ≤ 64; omega)]
  have e : (x : Int) * 2 ^ s = ((x * 2 ^ s : Nat) : Int) := by simp
  rw [e, u64_id (by omega) (by omega)]
theorem shr_val {x s : Nat} (hs : s ≤ 32) : shr .u64 (x : Int) (s : Int) = ((x / 2 ^ s : Nat) : Int) := by
  unfold shr
  rw [Int.toNat_natCast, Nat.min_eq_left (by show s ≤ 64; omega)]
  simp
theorem or_words {a b : Nat} (ha : a < 4294967296) (hb : b < 4294967296) : bits .or .u64 (IntKind.u64.wrap (IntKind.u64.wrap (a : Int) * 4294967296)) (IntKind.u64.wrap (b : Int)) = ((b + 4294967296 * a : Nat) : Int) := by
  rw [u64_id (x := (a : Int)) (by omega) (by omega), u64_id (x := (a : Int) * 4294967296) (by omega) (by omega), u64_id (x := (b : Int)) (by omega) (by omega), u64_or _ _ (by omega) (by omega) (by omega) (by omega), nat_join 32 _ _ (by omega) (by omega)]
  omega
theorem or_words' {a b : Nat} (ha : a < 4294967296) (hb : b < 4294967296) : bits .or .u64 (IntKind.u64.wrap (b : Int)) (IntKind.u64.wrap (IntKind.u64.wrap (a : Int) * 4294967296)) = ((b + 4294967296 * a : Nat) : Int) := by
  rw [u64_id (x := (a : Int)) (by omega) (by omega), u64_id (x := (a : Int) * 4294967296) (by omega) (by omega), u64_id (x := (b : Int)) (by omega) (by omega), u64_or _ _ (by omega) (by omega) (by omega) (by omega), Nat.or_comm, nat_join 32 _ _ (by omega) (by omega)]
  omega
theorem or_low {p w s : Nat} (hp : p < 2 ^ s) (hs : s ≤ 32) (hw : w % 2 ^ s = 0) : bits .or .u32 (p : Int) ((w : Int) % 4294967296) = ((p + w % 4294967296 : Nat) : Int) := by
  have h2 : (2 : Nat) ^ s ≤ 2 ^ 32 := Nat.pow_le_pow_right (by decide) hs
  have e : (w : Int) % 4294967296 = ((w % 4294967296 : Nat) : Int) := by omega
  have hm : w % 4294967296 % 2 ^ s = 0 := by
    have : (4294967296 : Nat) = 2 ^ s * 2 ^ (32 - s) := by rw [← Nat.pow_add, show s + (32 - s) = 32 by omega]
    rw [this, Nat.mod_mul_right_mod]
    exact hw
  rw [e, u32_or _ _ (by omega) (by omega) (by omega) (by omega), Int.toNat_natCast, Int.toNat_natCast, Nat.or_comm, nat_join s _ _ hm hp, Nat.add_comm]
theorem mv_step {x s p : Nat} (hx : x < 4294967296) (hs : s < 32) (hp : p < 2 ^ s) :
    ∃ lo hi : Nat, x * 2 ^ s = lo + 4294967296 * hi ∧ lo < 4294967296 ∧ hi < 2 ^ s ∧ p + lo < 4294967296 ∧ bits .or .u32 (p : Int) (shl .u64 (IntKind.u64.wrap (x : Int)) (s : Int) % 4294967296) = ((p + lo : Nat) : Int) ∧ shl .u64 (IntKind.u64.wrap (x : Int)) (s : Int) / 4294967296 % 4294967296 = (hi : Int) := by
  have hk : (4294967296 : Nat) = 2 ^ s * 2 ^ (32 - s) := by rw [← Nat.pow_add, show s + (32 - s) = 32 by omega]
  have hm : x * 2 ^ s % 4294967296 % 2 ^ s = 0 := by rw [hk, Nat.mod_mul_right_mod, Nat.mul_mod_left]
  have hor := or_low (w := x * 2 ^ s) hp (by omega) (Nat.mul_mod_left _ _)
  rw [shl_val hx (by omega)]
  have hxs : x * 2 ^ s < 4294967296 * 2 ^ s := Nat.mul_lt_mul_of_pos_right hx (Nat.two_pow_pos s)
  have hhi : x * 2 ^ s / 4294967296 < 2 ^ s := by rw [Nat.div_lt_iff_lt_mul (by decide), Nat.mul_comm (2 ^ s)]; exact hxs
  have hS : 2 ^ s ≤ 2 ^ 31 := Nat.pow_le_pow_right (by decide) (by omega)
  have hlo : p + x * 2 ^ s % 4294967296 < 4294967296 := by
    have hq := Nat.div_add_mod (x * 2 ^ s % 4294967296) (2 ^ s)
    rw [hm, Nat.add_zero] at hq
    have hlt : x * 2 ^ s % 4294967296 < 2 ^ s * 2 ^ (32 - s) := by rw [← hk]; exact Nat.mod_lt _ (by decide)
    rw [← hq] at hlt
    have h3 : x * 2 ^ s % 4294967296 / 2 ^ s + 1 ≤ 2 ^ (32 - s) := Nat.lt_of_mul_lt_mul_left hlt
    have h4 : 2 ^ s * (x * 2 ^ s % 4294967296 / 2 ^ s + 1) ≤ 2 ^ s * 2 ^ (32 - s) := Nat.mul_le_mul_left _ h3
    rw [Nat.mul_add, Nat.mul_one, hq, ← hk] at h4
    generalize x * 2 ^ s % 4294967296 = z at h4 ⊢
    generalize 2 ^ s = S at *
    omega
  refine ⟨x * 2 ^ s % 4294967296, x * 2 ^ s / 4294967296, (Nat.mod_add_div _ _).symm, Nat.mod_lt _ (by decide), hhi, hlo, hor, ?_⟩
  generalize 2 ^ s = S at *
  generalize x * S = z at *
  clear hm hk hor
  omega
theorem moved_l0 {t : List Int} (ok : Num.okW t) (ht : t.length ≤ 1000000) {s : Nat} (hs : s < 32) (d : Nat) : ∀ (i : Nat) (dn : List Int) (p : Nat), i + d = t.length → dn.length = i → Num.okW dn → p < 2 ^ s →
    Num.valN dn + 4294967296 ^ i * p = Num.valN (t.take i) * 2 ^ s →
    ∃ R : List Int, Num.okW R ∧ R.length = t.length + 1 ∧ Num.valN R = Num.valN t * 2 ^ s ∧ Ev (fun k => nat_moved.l0 k (s : Int) (dn ++ (p : Int) :: List.replicate d 0) t (t.length : Int) (i : Int)) R := by
  have h2 : (2 : Nat) ^ s ≤ 2147483648 := Nat.le_trans (Nat.pow_le_pow_right (by decide) (show s ≤ 31 by omega)) (by decide)
  induction d with
  | zero =>
    intro i dn p hi hd od hp hv
    have hp2 : p < 4294967296 := Nat.lt_of_lt_of_le hp (Nat.le_trans h2 (by decide))
    refine ⟨dn ++ [(p : Int)], Num.okW_snoc od (Int.natCast_nonneg _) (by clear hv hp h2; omega), by rw [List.length_append, hd]; simp; omega, ?_, ?_⟩
    · rw [Num.val_snoc, hd, Int.toNat_natCast, hv, List.take_of_length_le (by omega)]
    · refine Ev.step (f := fun _ => some (dn ++ [(p : Int)])) (fun k => ?_) (Ev.now _)
      simp only [nat_moved.l0]
      rw [if_neg (by omega), List.replicate_zero]
  | succ d ih =>
    intro i dn p hi hd od hp hv
    have ox := rd_ok ok i
    obtain ⟨x, hx⟩ := Int.eq_ofNat_of_zero_le ox.1
    have hx1 : x < 4294967296 := by clear hv hp h2; omega
    obtain ⟨lo, hh, e, hlo, hhi, hpl, hor, hshr⟩ := mv_step hx1 hs hp
    have Hor := Aside0.mk hor
    have Hshr := Aside0.mk hshr
    clear hor hshr
    have e1 : rd (dn ++ (p : Int) :: List.replicate (d + 1) 0) (i : Int) = (p : Int) := by
      rw [rd_getD, List.getD_eq_getElem?_getD, List.getElem?_append_right (by clear hv hp h2 e hhi; omega), hd, Nat.sub_self]
      rfl
    have e2 : ∀ a b : Int, ((dn ++ (p : Int) :: List.replicate (d + 1) 0).set i a).set (i + 1) b = (dn ++ [a]) ++ b :: List.replicate d 0 := by
      intro a b
      rw [← hd, List.set_append_right _ _ (Nat.le_refl _), Nat.sub_self, List.set_cons_zero, List.set_append_right _ _ (Nat.le_succ _), show dn.length + 1 - dn.length = 0 + 1 by omega, List.set_cons_succ, List.replicate_succ, List.set_cons_zero]
      simp
    have hi1 : i + 1 + d = t.length := by clear hv hp h2 e hhi; omega
    have hil : i < t.length := by clear hv hp h2 e hhi; omega
    obtain ⟨R, o, l, v, hev⟩ := ih (i + 1) (dn ++ [((p + lo : Nat) : Int)]) hh hi1 (by rw [List.length_append, hd]; rfl) (Num.okW_snoc od (Int.natCast_nonneg _) (by clear hv hp h2 e hhi; omega)) hhi (by
      rw [Num.val_snoc, hd, Int.toNat_natCast, Num.val_take_next, ← rd_toNat, hx, Int.toNat_natCast, Nat.pow_succ, Nat.add_mul, Nat.mul_assoc (4294967296 ^ i) x, e, ← hv]
      simp only [Nat.mul_add, ← Nat.mul_assoc]
      clear hv hp h2 e hhi hi hi1 hil
      omega)
    refine ⟨R, o, l, v, Ev.step (fun k => ?_) hev⟩
    clear hv hp h2 e hhi v
    have Ew := Aside0.mk (show wrap64 ((i : Int) + 1) = ((i + 1 : Nat) : Int) by rw [i64_id (by omega) (by omega)]; rfl)
    have hl : (dn ++ (p : Int) :: List.replicate (d + 1) 0).length = t.length + 1 := by rw [List.length_append, hd]; simp; omega
    simp only [nat_moved.l0]
    rw [if_pos (by omega), if_pos (by omega), if_pos (by omega), if_pos (by omega), Ew.out, if_pos (by omega), if_pos (by omega), if_pos (by omega), hx, Hshr.out, e1, Hor.out, Int.toNat_natCast, Int.toNat_natCast, e2]
/-- moved: a value shifted left by less than a word, with one word more -/
theorem ev_moved (t : List Int) (ok : Num.okW t) (ht : t.length ≤ 1000000) (s : Nat) (hs : s < 32) :
    ∃ R : List Int, Num.okW R ∧ R.length = t.length + 1 ∧ Num.valN R = Num.valN t * 2 ^ s ∧ Ev (fun k => nat_moved.f k t (s : Int)) R := by
  obtain ⟨R, o, l, v, hev⟩ := moved_l0 ok ht hs t.length 0 [] 0 (by omega) rfl Num.okW_nil (Nat.two_pow_pos s) (by simp [Num.valN])
  refine ⟨R, o, l, v, ?_⟩
  unfold nat_moved.f
  refine Ev.congr (fun k => by rw [i64_id (show -9223372036854775808 ≤ (t.length : Int) + 1 by omega) (by omega), if_pos (by omega), if_pos (by omega), show ((t.length : Int) + 1).toNat = t.length + 1 by omega]) ?_
  exact hev

/-- words shifted right -/
def rsW (s : Nat) : List Int → List Int
  | [] => []
  | x :: xs => (((x.toNat + 4294967296 * (xs.headD 0).toNat) / 2 ^ s % 4294967296 : Nat) : Int) :: rsW s xs
theorem rsW_len (s : Nat) (l : List Int) : (rsW s l).length = l.length := by
  induction l with
  | nil => rfl
  | cons x xs ih => simp [rsW, ih]
theorem rsW_ok (s : Nat) (l : List Int) : Num.okW (rsW s l) := by
  induction l with
  | nil => exact Num.okW_nil
  | cons x xs ih => exact Num.okW_cons.2 ⟨by omega, ih⟩
theorem head_mod (l : List Int) (ok : Num.okW l) : (l.headD 0).toNat = Num.valN l % 4294967296 := by
  cases l with
  | nil => rfl
  | cons x xs =>
    have h := (Num.okW_cons.1 ok).1
    simp only [List.headD_cons, Num.valN]
    omega
theorem rsW_val {s : Nat} (hs : s ≤ 32) (l : List Int) (ok : Num.okW l) : Num.valN (rsW s l) = Num.valN l / 2 ^ s := by
  induction l with
  | nil => simp [rsW, Num.valN]
  | cons x xs ih =>
    have hx := (Num.okW_cons.1 ok).1
    have oxs := (Num.okW_cons.1 ok).2
    simp only [rsW, Num.valN, Int.toNat_natCast, ih oxs, head_mod xs oxs]
    generalize Num.valN xs = v
    obtain ⟨X, rfl⟩ := Int.eq_ofNat_of_zero_le hx.1
    simp only [Int.toNat_natCast]
    have hk : (4294967296 : Nat) = 2 ^ s * 2 ^ (32 - s) := by rw [← Nat.pow_add, show s + (32 - s) = 32 by omega]
    have hp : 0 < 2 ^ s := Nat.two_pow_pos s
    -- v = z * 2^s + t
    have hv := Nat.div_add_mod v (2 ^ s)
    have ht := Nat.mod_lt v hp
    have hv2 : v % 4294967296 % 2 ^ s = v % 2 ^ s := by rw [hk, Nat.mod_mul_right_mod]
    have hw := Nat.div_add_mod (v % 4294967296) (2 ^ s)
    rw [hv2] at hw
    generalize v % 2 ^ s = t at *
    generalize v / 2 ^ s = z at *
    generalize v % 4294967296 / 2 ^ s = z' at *
    have a1 : (X + 4294967296 * v) / 2 ^ s = (X + 4294967296 * t) / 2 ^ s + 4294967296 * z := by
      have : X + 4294967296 * v = (X + 4294967296 * t) + 2 ^ s * (4294967296 * z) := by
        rw [← hv, Nat.mul_add, Nat.mul_left_comm]; omega
      rw [this, Nat.add_mul_div_left _ _ hp]
    have a2 : (X + 4294967296 * (v % 4294967296)) / 2 ^ s = (X + 4294967296 * t) / 2 ^ s + 4294967296 * z' := by
      have : X + 4294967296 * (v % 4294967296) = (X + 4294967296 * t) + 2 ^ s * (4294967296 * z') := by
        rw [← hw, Nat.mul_add, Nat.mul_left_comm]; omega
      rw [this, Nat.add_mul_div_left _ _ hp]
    have a3 : (X + 4294967296 * t) / 2 ^ s < 4294967296 := by
      rw [Nat.div_lt_iff_lt_mul hp]
      have : 4294967296 * (t + 1) ≤ 4294967296 * 2 ^ s := Nat.mul_le_mul_left _ ht
      omega
    rw [a1, a2, Nat.add_mul_mod_self_left, Nat.mod_eq_of_lt a3]
theorem rsW_get (s : Nat) (l : List Int) : ∀ i : Nat, i < l.length → (rsW s l).getD i 0 = (((rd l (i : Int)).toNat + 4294967296 * (rd l ((i + 1 : Nat) : Int)).toNat) / 2 ^ s % 4294967296 : Nat) := by
  induction l with
  | nil => intro i h; simp at h
  | cons x xs ih =>
    intro i h
    cases i with
    | zero =>
      rw [rd_getD, rd_getD]
      simp only [rsW, List.getD_cons_zero, List.getD_cons_succ]
      cases xs <;> rfl
    | succ i =>
      have := ih i (by simpa using h)
      rw [rd_getD, rd_getD] at this ⊢
      simp only [rsW, List.getD_cons_succ]
      exact this
theorem take_next {l : List Int} {i : Nat} (h : i < l.length) : l.take (i + 1) = l.take i ++ [l.getD i 0] := by
  rw [List.take_succ_eq_append_getElem h, List.getD_eq_getElem?_getD, List.getElem?_eq_getElem h]
  rfl
theorem val_take_of_lt {l : List Int} {n : Nat} (h : Num.valN l < 4294967296 ^ n) : Num.valN (l.take n) = Num.valN l := by
  rcases Nat.lt_or_ge n l.length with c | c
  · have e : Num.valN l = Num.valN (l.take n) + 4294967296 ^ n * Num.valN (l.drop n) := by
      have h1 := Num.valN_append (l.take n) (l.drop n)
      rw [List.take_append_drop, List.length_take, Nat.min_eq_left (by omega)] at h1
      exact h1
    rcases Nat.eq_zero_or_pos (Num.valN (l.drop n)) with h0 | h0
    · rw [h0] at e; omega
    · have : 4294967296 ^ n * 1 ≤ 4294967296 ^ n * Num.valN (l.drop n) := Nat.mul_le_mul_left _ h0
      omega
  · rw [List.take_of_length_le c]
theorem shiftr_l0 {y : List Int} (ok : Num.okW y) (hy : y.length ≤ 1000000) {s : Nat} (hs : s ≤ 32) (d : Nat) : ∀ i : Nat, i + d = y.length →
    Ev (fun k => nat_Shift.l0 k y (s : Int) ((rsW s y).take i ++ List.replicate d 0) y (y.length : Int) (i : Int)) (Num.wordsN (Num.valN y / 2 ^ s), (0 : Int)) := by
  induction d with
  | zero =>
    intro i hi
    refine Ev.step (f := fun k => (nat_trim.f k (rsW s y)).bind fun t => some (t, (0 : Int))) (fun k => ?_) ?_
    · simp only [nat_Shift.l0]
      rw [if_neg (by omega), List.replicate_zero, List.append_nil, List.take_of_length_le (by rw [rsW_len]; omega)]
    · refine Ev.bind (ev_trim _ (by rw [rsW_len]; omega)) ?_
      rw [Num.trim_words (rsW_ok s y), rsW_val hs y ok]
      exact Ev.now _
  | succ d ih =>
    intro i hi
    have ox := rd_ok ok i
    have ox1 := rd_ok ok (i + 1)
    obtain ⟨a, ha⟩ := Int.eq_ofNat_of_zero_le ox.1
    obtain ⟨b, hb⟩ := Int.eq_ofNat_of_zero_le ox1.1
    have Ew := Aside0.mk (show wrap64 ((i : Int) + 1) = ((i + 1 : Nat) : Int) by rw [i64_id (by omega) (by omega)]; rfl)
    have hlt : ((rsW s y).take i).length = i := by rw [List.length_take, rsW_len]; omega
    have hg := rsW_get s y i (by omega)
    rw [ha, hb, Int.toNat_natCast, Int.toNat_natCast] at hg
    have hset : ∀ v : Int, v = (rsW s y).getD i 0 → ((rsW s y).take i ++ List.replicate (d + 1) 0).set i v = (rsW s y).take (i + 1) ++ List.replicate d 0 := by
      intro v hv
      have := set_next ((rsW s y).take i) d v
      rw [hlt] at this
      rw [this, take_next (by rw [rsW_len]; omega), hv]
    have hl : ((rsW s y).take i ++ List.replicate (d + 1) 0).length = y.length := by rw [List.length_append, hlt, List.length_replicate]; omega
    refine Ev.step (fun k => ?_) (ih (i + 1) (by omega))
    simp only [nat_Shift.l0]
    rw [if_pos (by omega), if_pos (by omega), if_pos (by omega), Ew.out]
    by_cases c : ((i + 1 : Nat) : Int) < (y.length : Int)
    · rw [if_pos c, if_pos (by omega), if_pos (by omega), if_pos (by omega), ha, hb, or_words' (by omega) (by omega), shr_val hs, Int.toNat_natCast, hset _ (by rw [hg]; generalize (a + 4294967296 * b) / 2 ^ s = z; omega)]
    · have h0 : b = 0 := by
        have := rd_beyond (l := y) (i := i + 1) (by omega)
        omega
      rw [if_neg c, if_pos (by omega), if_pos (by omega), ha, u64_id (x := (a : Int)) (by omega) (by omega), shr_val hs, Int.toNat_natCast, hset _ (by rw [hg, h0, Nat.mul_zero, Nat.add_zero]; generalize a / 2 ^ s = z; omega)]
theorem drop_words_val {l : List Int} (ok : Num.okW l) (q : Nat) : Num.valN (l.drop q) = Num.valN l / 4294967296 ^ q := by
  rcases Nat.lt_or_ge l.length q with c | c
  · rw [List.drop_of_length_le (by omega), Nat.div_eq_of_lt]
    · rfl
    · exact Nat.lt_of_lt_of_le (Num.valN_lt ok) (Nat.pow_le_pow_right (by decide) (by omega))
  · have h1 := Num.valN_append (l.take q) (l.drop q)
    rw [List.take_append_drop, List.length_take, Nat.min_eq_left c] at h1
    have h2 := Num.valN_lt (Num.okW_take ok q)
    rw [List.length_take, Nat.min_eq_left c] at h2
    rw [h1, Nat.add_mul_div_left _ _ (Nat.pow_pos (by decide)), Nat.div_eq_of_lt h2, Nat.zero_add]
theorem pow_words (q : Nat) : (4294967296 : Nat) ^ q = 2 ^ (32 * q) := by
  rw [Nat.pow_mul]
theorem shift_right (l : List Int) (ok : Num.okW l) (hl : (Num.trimW l).length ≤ 2000) (hl' : l.length ≤ 1000000000) (m : Nat) (hm : 0 < m) (hm2 : m ≤ 9223372036854775807) : Ev (fun k => nat_Shift.f k l (-(m : Int))) (Num.wordsN (Num.valN l / 2 ^ m), (0 : Int)) := by
  unfold nat_Shift.f
  refine Ev.bind (ev_trim l hl') ?_
  have ht := Num.okW_trim ok
  have hn := Num.normed_trim l
  have hid := Num.trimW_idem l
  rw [← Num.trimW_val l]
  generalize Num.trimW l = t at *
  have hlg := ev_large t (by omega)
  rw [hid] at hlg
  refine Ev.bind hlg ?_
  simp only [decide_eq_false (show ¬ 2000 < t.length by omega), Bool.false_eq_true, if_false, decide_eq_false (show ¬ -(m : Int) > 64000 by omega)]
  have ew : wrap64 (-(-(m : Int))) = (m : Int) := by rw [i64_id (by omega) (by omega)]; omega
  have ew2 : wrap64 ((-32) * (t.length : Int)) = (-32) * (t.length : Int) := i64_id (by omega) (by omega)
  by_cases c : -(m : Int) ≤ (-32) * (t.length : Int)
  · refine Ev.step (f := fun _ => some (([] : List Int), (0 : Int))) (fun k => ?_) ?_
    · simp only [nat_Shift.j0, Bool.false_eq_true, if_false]
      rw [if_neg (by omega), ew2, if_pos c]
    · have : Num.valN t / 2 ^ m = 0 := by
        refine Nat.div_eq_of_lt (Nat.lt_of_lt_of_le (Num.valN_lt ht) ?_)
        rw [pow_words]
        exact Nat.pow_le_pow_right (by decide) (by omega)
      rw [this, Num.wordsN_zero]
      exact Ev.now _
  · have eq : Int.tdiv (m : Int) 32 = ((m / 32 : Nat) : Int) := rfl
    have er : Int.tmod (m : Int) 32 = ((m % 32 : Nat) : Int) := rfl
    have ew3 : wrap64 ((m / 32 : Nat) : Int) = ((m / 32 : Nat) : Int) := i64_id (by omega) (by omega)
    have hlen : (t.drop (m / 32)).length = t.length - m / 32 := List.length_drop ..
    have h := shiftr_l0 (Num.okW_drop ht (m / 32)) (by omega) (s := m % 32) (by omega) (t.drop (m / 32)).length 0 (by omega)
    rw [drop_words_val ht, Nat.div_div_eq_div_mul, pow_words, ← Nat.pow_add, show 32 * (m / 32) + m % 32 = m by omega] at h
    refine Ev.step (fun k => ?_) h
    simp only [nat_Shift.j0, Bool.false_eq_true, if_false]
    rw [if_neg (by omega), ew2, if_neg c, ew, eq, er, ew3, if_pos (by omega), if_pos (by omega), Option.bind_some, Int.toNat_natCast, if_pos (by omega), if_pos (by omega), Int.toNat_natCast, List.take_zero, List.nil_append]
    rfl
/-- the answer to a value, or the refusal of a large one -/
def fitV (v : Nat) : List Int × Int := if 2000 < (Num.wordsN v).length then ([], 2) else (Num.wordsN v, 0)
theorem fitsW_V {l : List Int} (ok : Num.okW l) : fitsW l = fitV (Num.valN l) := by
  unfold fitsW fitV
  rw [Num.trim_words ok]
theorem val_zeros (q : Nat) (l : List Int) : Num.valN (List.replicate q 0 ++ l) = 4294967296 ^ q * Num.valN l := by
  rw [Num.valN_append, List.length_replicate]
  have : Num.valN (List.replicate q 0) = 0 := by
    induction q with
    | zero => rfl
    | succ q ih => rw [List.replicate_succ]; simp [Num.valN, ih]
  rw [this, Nat.zero_add]
theorem okW_zeros (q : Nat) : Num.okW (List.replicate q 0) := by
  intro x hx
  rw [List.eq_of_mem_replicate hx]
  decide
theorem shift_left (l : List Int) (ok : Num.okW l) (hl : (Num.trimW l).length ≤ 2000) (hl' : l.length ≤ 1000000000) (m : Nat) (hm : m ≤ 64000) : Ev (fun k => nat_Shift.f k l (m : Int)) (fitV (Num.valN l * 2 ^ m)) := by
  unfold nat_Shift.f
  refine Ev.bind (ev_trim l hl') ?_
  have ht := Num.okW_trim ok
  have hid := Num.trimW_idem l
  rw [← Num.trimW_val l]
  generalize Num.trimW l = t at *
  have hlg := ev_large t (by omega)
  rw [hid] at hlg
  refine Ev.bind hlg ?_
  simp only [decide_eq_false (show ¬ 2000 < t.length by omega), Bool.false_eq_true, if_false, decide_eq_false (show ¬ (m : Int) > 64000 by omega)]
  have eq : Int.tdiv (m : Int) 32 = ((m / 32 : Nat) : Int) := rfl
  have er : Int.tmod (m : Int) 32 = ((m % 32 : Nat) : Int) := rfl
  have ew3 : wrap64 ((m / 32 : Nat) : Int) = ((m / 32 : Nat) : Int) := i64_id (by omega) (by omega)
  obtain ⟨R, o, hlen, v, hev⟩ := ev_moved t ht (by omega) (m % 32) (by omega)
  have hval : Num.valN (List.replicate (m / 32) 0 ++ R) = Num.valN t * 2 ^ m := by
    rw [val_zeros, v, pow_words, Nat.mul_left_comm, ← Nat.pow_add, show 32 * (m / 32) + m % 32 = m by omega]
  have ho : Num.okW (List.replicate (m / 32) 0 ++ R) := Num.okW_append.2 ⟨okW_zeros _, o⟩
  refine Ev.step (f := fun k => (nat_moved.f k t ((m % 32 : Nat) : Int)).bind fun t265 => (if (List.replicate (m / 32) (0 : Int)).length + t265.length < 35184372088832 then ((nat_fits.f k (List.replicate (m / 32) 0 ++ t265)).bind fun bt271 => (some (bt271.1, bt271.2))) else (none))) (fun k => ?_) ?_
  · simp only [nat_Shift.j0, Bool.false_eq_true, if_false]
    rw [if_pos (by omega), eq, er, ew3, if_pos (by omega), if_pos (by omega), Option.bind_some, Int.toNat_natCast]
  · refine Ev.bind hev ?_
    simp only [List.length_replicate, if_pos (show m / 32 + R.length < 35184372088832 by omega)]
    have := ev_fits (List.replicate (m / 32) 0 ++ R) (by simp only [List.length_append, List.length_replicate]; omega)
    rw [fitsW_V ho, hval] at this
    exact Ev.bind this (Ev.now _)

end Go.Proofs.YtkihjfpfocnneaaDoor.Pure

namespace Go.Proofs.YtkihjfpfocnneaaDoor.Pure
open Go.RowKit Go.Proofs.YtkihjfpfocnneaaDoor.PNat Go.Proofs.YtkihjfpfocnneaaDoorW.PrintWords Go.Proofs.YtkihjfpfocnneaaDoorW.PrintLast Go.Proofs.YtkihjfpfocnneaaDoorW.PrintMore
set_option linter.unusedVariables false
set_option linter.unusedSimpArgs false
theorem digit_top {P u2 u1 u0 v1 v0 rU rV U V : Nat} (hU : U = rU + P * (u0 + 4294967296 * (u1 + 4294967296 * u2)))
    (hV : V = rV + P * (v0 + 4294967296 * v1)) (hrV : rV < P) (hv0 : v0 < 4294967296) (hlt : U < 4294967296 * V) : u2 ≤ v1 := by
  have hV1 : V < P * (4294967296 * (v1 + 1)) := by
    have : P * (v0 + 4294967296 * v1 + 1) ≤ P * (4294967296 * (v1 + 1)) := Nat.mul_le_mul_left _ (by omega)
    rw [Nat.mul_add P, Nat.mul_one] at this
    omega
  rcases Nat.lt_or_ge v1 u2 with h | h
  · exfalso
    have h1 : P * (4294967296 * (4294967296 * (v1 + 1))) ≤ P * (u0 + 4294967296 * (u1 + 4294967296 * u2)) := Nat.mul_le_mul_left _ (by omega)
    have h2 : 4294967296 * V < 4294967296 * (P * (4294967296 * (v1 + 1))) := Nat.mul_lt_mul_of_pos_left hV1 (by decide)
    rw [Nat.mul_left_comm 4294967296 P] at h2
    omega
  · exact h
/-- n words' part of a value, and what the guess is good for -/
theorem digit_bound {P u2 u1 u0 v1 v0 rU rV U V m : Nat} (hP : 0 < P) (hU : U = rU + P * (u0 + 4294967296 * (u1 + 4294967296 * u2))) (hrU : rU < P) (hu0 : u0 < 4294967296) (hu1 : u1 < 4294967296)
    (hV : V = rV + P * (v0 + 4294967296 * v1)) (hrV : rV < P) (hv0 : v0 < 4294967296) (hlt : U < 4294967296 * V) (hv1 : 0 < v1) (hm : m < 4294967296) (hmv : m * v1 ≤ u2 * 4294967296 + u1)
    (hq : ∀ q, q < 4294967296 → q * (v1 * 4294967296 + v0) ≤ (u2 * 4294967296 + u1) * 4294967296 + u0 → q ≤ m) :
    u2 ≤ v1 ∧ U / V ≤ m ∧ m * V ≤ U + P * 4294967296 * 4294967296 := by
  have hV0 : 0 < V := by
    have : P * 1 ≤ P * (v0 + 4294967296 * v1) := Nat.mul_le_mul_left _ (by omega)
    omega
  have hV1 : V < P * (4294967296 * (v1 + 1)) := by
    have : P * (v0 + 4294967296 * v1 + 1) ≤ P * (4294967296 * (v1 + 1)) := Nat.mul_le_mul_left _ (by omega)
    rw [Nat.mul_add P, Nat.mul_one] at this
    omega
  have h21 : u2 ≤ v1 := by
    rcases Nat.lt_or_ge v1 u2 with h | h
    · exfalso
      have h1 : P * (4294967296 * (4294967296 * (v1 + 1))) ≤ P * (u0 + 4294967296 * (u1 + 4294967296 * u2)) := Nat.mul_le_mul_left _ (by omega)
      have h2 : 4294967296 * V < 4294967296 * (P * (4294967296 * (v1 + 1))) := Nat.mul_lt_mul_of_pos_left hV1 (by decide)
      rw [Nat.mul_left_comm 4294967296 P] at h2
      omega
    · exact h
  refine ⟨h21, ?_, ?_⟩
  · have hqlt : U / V < 4294967296 := by rw [Nat.div_lt_iff_lt_mul hV0]; exact hlt
    refine hq _ hqlt ?_
    have h1 : U / V * V ≤ U := Nat.div_mul_le_self U V
    generalize U / V = q at *
    have h2 : q * (P * (v0 + 4294967296 * v1)) ≤ q * V := Nat.mul_le_mul_left _ (by omega)
    have h3 : P * (q * (v0 + 4294967296 * v1)) < P * ((u2 * 4294967296 + u1) * 4294967296 + u0 + 1) := by
      rw [Nat.mul_left_comm] at h2
      have : U < P * ((u2 * 4294967296 + u1) * 4294967296 + u0 + 1) := by
        rw [Nat.mul_add P _ 1, Nat.mul_one, show (u2 * 4294967296 + u1) * 4294967296 + u0 = u0 + 4294967296 * (u1 + 4294967296 * u2) by omega]
        omega
      omega
    have h4 := Nat.lt_of_mul_lt_mul_left h3
    rw [show v1 * 4294967296 + v0 = v0 + 4294967296 * v1 by omega]
    omega
  · have h1 : m * V ≤ m * (P * (4294967296 * (v1 + 1))) := Nat.mul_le_mul_left _ (Nat.le_of_lt hV1)
    have e : m * (P * (4294967296 * (v1 + 1))) = P * (4294967296 * (m * v1 + m)) := by
      rw [Nat.mul_left_comm m P, Nat.mul_left_comm m 4294967296, Nat.mul_add m, Nat.mul_one]
    have h2 : P * (4294967296 * (m * v1 + m)) ≤ P * (u0 + 4294967296 * (u1 + 4294967296 * u2) + 4294967296 * 4294967296) := Nat.mul_le_mul_left _ (by omega)
    rw [Nat.mul_add P _ (4294967296 * 4294967296)] at h2
    omega
/-- behind a step too far, given back once -/
theorem give_back {M Bn x x' d V U bo o : Nat} (hx : x + (d + 1) * V = U + M * bo) (hbo : bo ≤ 1) (hxM : x < M) (hU : U < (d + 1) * V) (hx' : x' + M * o = x + V) (hxM' : x' < M) (hV : V ≤ Bn) (hBn : 2 * Bn ≤ M) (hVpos : 0 < V) (hdV : (d + 1) * V ≤ U + Bn) :
    ∃ bo' : Nat, bo' ≤ 1 ∧ x' + d * V = U + M * bo' ∧ (bo' = 0 ↔ x' < Bn) ∧ (bo' = 0 ↔ d * V ≤ U) := by
  rw [Nat.add_mul, Nat.one_mul] at hx hU hdV
  generalize d * V = D at *
  have hb1 : bo = 1 := by
    rcases Nat.eq_zero_or_pos bo with h | h
    · subst h; omega
    · omega
  subst hb1
  rw [Nat.mul_one] at hx
  rcases Nat.lt_or_ge U D with h | h
  · have ho : o = 0 := by
      rcases Nat.eq_zero_or_pos o with h0 | h0
      · exact h0
      · have : M * 1 ≤ M * o := Nat.mul_le_mul_left _ h0
        omega
    subst ho
    exact ⟨1, Nat.le_refl _, by omega, by omega, by omega⟩
  · have ho : o = 1 := by
      rcases Nat.lt_or_ge o 1 with h0 | h0
      · have : o = 0 := by omega
        subst this; omega
      · rcases Nat.lt_or_ge 1 o with h1 | h1
        · have : M * 2 ≤ M * o := Nat.mul_le_mul_left _ h1
          omega
        · omega
    subst ho
    exact ⟨0, by decide, by omega, by omega, by omega⟩
theorem three {U : List Int} {j h : Nat} (h1 : j ≤ h) : U.take j ++ (U.take h).drop j ++ U.drop h = U := by
  have h3 : U.take j = (U.take h).take j := by rw [List.take_take, Nat.min_eq_left h1]
  rw [h3, List.take_append_drop, List.take_append_drop]
theorem three_val {L X T : List Int} : Num.valN (L ++ X ++ T) = Num.valN L + 4294967296 ^ L.length * Num.valN X + 4294967296 ^ (L.length + X.length) * Num.valN T := by
  rw [Num.valN_append, Num.valN_append, List.length_append]
theorem rd_part {L X T : List Int} {i : Nat} (h : i < X.length) : rd (L ++ X ++ T) ((L.length + i : Nat) : Int) = rd X (i : Int) := by
  rw [rd_getD, rd_getD, List.getD_eq_getElem?_getD, List.getD_eq_getElem?_getD, List.append_assoc, List.getElem?_append_right (by omega), Nat.add_sub_cancel_left, List.getElem?_append_left h]
theorem top_word {X : List Int} (ok : Num.okW X) {n : Nat} (h : X.length = n + 1) : Num.valN X = Num.valN (X.take n) + 4294967296 ^ n * (rd X (n : Int)).toNat ∧ Num.valN (X.take n) < 4294967296 ^ n := by
  constructor
  · have := Num.val_take_next X n
    rw [List.take_of_length_le (l := X) (i := n + 1) (by omega), ← rd_toNat] at this
    exact this
  · have := Num.valN_lt (Num.okW_take ok n)
    rw [List.length_take, Nat.min_eq_left (by omega)] at this
    exact this
theorem takeAt_ev {L X T V X' : List Int} {d n : Nat} {b : Bool} (hX : X.length = n + 1) (hl : L.length + n + 1 ≤ 100000000) (h : Ev (fun k => nat_take.f k X V (d : Int)) (b, X')) :
    Ev (fun k => nat_takeAt.f k (L ++ X ++ T) (L.length : Int) (n : Int) V (d : Int)) (b, L ++ X' ++ T) := by
  have e1 : wrap64 (wrap64 ((L.length : Int) + (n : Int)) + 1) = ((L.length + n + 1 : Nat) : Int) := by
    rw [i64_id (x := (L.length : Int) + (n : Int)) (by omega) (by omega), i64_id (by omega) (by omega)]; rfl
  have e2 : (L ++ X ++ T).take (L.length + n + 1) = L ++ X := List.take_left' (by rw [List.length_append]; omega)
  have e3 : (L ++ X ++ T).drop (L.length + n + 1) = T := List.drop_left' (by rw [List.length_append]; omega)
  have e4 : (L ++ X ++ T).take L.length = L := by rw [List.append_assoc]; exact List.take_left
  refine Ev.congr (f := fun k => (nat_take.f k X V (d : Int)).bind fun bt => some (bt.1, L ++ bt.2 ++ T)) (fun k => ?_) (Ev.bind h (Ev.now _))
  unfold nat_takeAt.f
  rw [e1, if_pos (by omega), if_pos (by omega), if_pos (by simp only [List.length_append]; omega), Int.toNat_natCast, Int.toNat_natCast, e2, e3, e4, List.drop_left]
theorem giveAt_ev {L X T V X' : List Int} {n : Nat} (hX : X.length = n + 1) (hl : L.length + n + 1 ≤ 100000000) (h : Ev (fun k => nat_give.f k X V) X') :
    Ev (fun k => nat_giveAt.f k (L ++ X ++ T) (L.length : Int) (n : Int) V) (L ++ X' ++ T) := by
  have e1 : wrap64 (wrap64 ((L.length : Int) + (n : Int)) + 1) = ((L.length + n + 1 : Nat) : Int) := by
    rw [i64_id (x := (L.length : Int) + (n : Int)) (by omega) (by omega), i64_id (by omega) (by omega)]; rfl
  have e2 : (L ++ X ++ T).take (L.length + n + 1) = L ++ X := List.take_left' (by rw [List.length_append]; omega)
  have e3 : (L ++ X ++ T).drop (L.length + n + 1) = T := List.drop_left' (by rw [List.length_append]; omega)
  have e4 : (L ++ X ++ T).take L.length = L := by rw [List.append_assoc]; exact List.take_left
  refine Ev.congr (f := fun k => (nat_give.f k X V).bind fun t => some (L ++ t ++ T)) (fun k => ?_) (Ev.bind h (Ev.now _))
  unfold nat_giveAt.f
  rw [e1, if_pos (by omega), if_pos (by omega), if_pos (by simp only [List.length_append]; omega), Int.toNat_natCast, Int.toNat_natCast, e2, e3, e4, List.drop_left]
/-- the inner loop: what was taken too much is given back -/
theorem div_l1 {V L T Q : List Int} {by_ : Int} {n : Nat} (oV : Num.okW V) (hV : V.length = n) (hn : n ≤ 1000000) (hL : L.length ≤ 10000000) (hQ : L.length < Q.length) (hVpos : 0 < Num.valN V) (U q : Nat) (hqd : q = U / Num.valN V) (hqB : q < 4294967296)
    {R : List Int × List Int × Int} (K : ∀ X : List Int, Num.okW X → X.length = n + 1 → Num.valN X = U % Num.valN V → Ev (fun k => nat_Divide.l0 k (Q.set L.length (q : Int)) by_ (L ++ X ++ T) V (n : Int) ((L.length : Int) - 1)) R) (t : Nat) :
    ∀ (X : List Int) (bo : Nat), Num.okW X → X.length = n + 1 → q + t < 4294967296 → bo ≤ 1 → Num.valN X + (q + t) * Num.valN V = U + 4294967296 ^ (n + 1) * bo → (q + t) * Num.valN V ≤ U + 4294967296 ^ n →
      Ev (fun k => nat_Divide.l1 k Q by_ (L ++ X ++ T) V (n : Int) (L.length : Int) ((q + t : Nat) : Int) (decide (bo ≠ 0))) R := by
  have hdm := Nat.div_add_mod U (Num.valN V)
  have hml := Nat.mod_lt U hVpos
  rw [← hqd, Nat.mul_comm] at hdm
  have hVB : Num.valN V < 4294967296 ^ n := by have := Num.valN_lt oV; rw [hV] at this; exact this
  induction t with
  | zero =>
    intro X bo oX hX hB hbo hv hle
    rw [Nat.add_zero] at hv hle ⊢
    have hXB := Num.valN_lt oX
    rw [hX] at hXB
    have h0 : bo = 0 := by
      rcases Nat.eq_zero_or_pos bo with h | h
      · exact h
      · have : bo = 1 := by omega
        subst this
        omega
    subst h0
    have hv2 : Num.valN X = U % Num.valN V := by omega
    refine Ev.step (fun k => ?_) (K X oX hX hv2)
    simp only [nat_Divide.l1]
    rw [if_neg (by simp), if_pos (by omega), if_pos (by omega), Int.toNat_natCast, show ((q : Nat) : Int) % 4294967296 = (q : Int) by omega, i64_id (by omega) (by omega)]
  | succ t ih =>
    intro X bo oX hX hB hbo hv hle
    have hXB := Num.valN_lt oX
    rw [hX] at hXB
    have hUlt : U < (q + t + 1) * Num.valN V := by
      have : (q + 1) * Num.valN V ≤ (q + t + 1) * Num.valN V := Nat.mul_le_mul_right _ (by omega)
      rw [Nat.add_mul, Nat.one_mul] at this
      omega
    obtain ⟨X', oX', lX', ⟨o, hval⟩, hev⟩ := ev_give X V oX oV (by omega) (by omega)
    have hXB' := Num.valN_lt oX'
    rw [lX', hX] at hXB'
    rw [hX] at hval
    obtain ⟨bo', h1, h2, h3, h4⟩ := give_back (d := q + t) (M := 4294967296 ^ (n + 1)) (Bn := 4294967296 ^ n) (o := o) hv hbo hXB hUlt hval hXB' (Nat.le_of_lt hVB) (by rw [Nat.pow_succ]; omega) hVpos hle
    have hbo1 : bo ≠ 0 := by
      intro h
      subst h
      rw [← Nat.add_assoc] at hv
      omega
    have htop := top_word oX' (n := n) (by omega)
    have hrdp : rd (L ++ X' ++ T) ((L.length : Int) + (n : Int)) = rd X' (n : Int) := by
      have := rd_part (L := L) (X := X') (T := T) (i := n) (by omega)
      rw [← this]
      congr 1
    have orx := rd_ok oX' n
    have htoo : (rd X' (n : Int) != 0) = decide (bo' ≠ 0) := by
      have hz : rd X' (n : Int) = 0 ↔ Num.valN X' < 4294967296 ^ n := by
        constructor
        · intro h
          rw [h] at htop
          have := htop.1
          simp only [Int.toNat_zero, Nat.mul_zero, Nat.add_zero] at this
          rw [this]
          exact htop.2
        · intro h
          rcases Nat.eq_zero_or_pos (rd X' (n : Int)).toNat with h5 | h5
          · omega
          · have h6 : 4294967296 ^ n * 1 ≤ 4294967296 ^ n * (rd X' (n : Int)).toNat := Nat.mul_le_mul_left _ h5
            have := htop.1
            omega
      by_cases hb : bo' = 0
      · rw [hz.2 (h3.1 hb), hb]; rfl
      · have : ¬ rd X' (n : Int) = 0 := fun h => hb (h3.2 (hz.1 h))
        rw [bne_iff_ne.2 this, decide_eq_true hb]
    have hle' : (q + t) * Num.valN V ≤ U + 4294967296 ^ n := by
      have : (q + t) * Num.valN V ≤ (q + (t + 1)) * Num.valN V := Nat.mul_le_mul_right _ (by omega)
      omega
    have hrec := ih X' bo' oX' (by omega) (by omega) h1 h2 hle'
    have hg := giveAt_ev (L := L) (T := T) (n := n) hX (by omega) hev
    refine Ev.step (f := fun k => (nat_giveAt.f k (L ++ X ++ T) (L.length : Int) (n : Int) V).bind fun t581 => nat_Divide.l1 k Q by_ t581 V (n : Int) (L.length : Int) ((q + t : Nat) : Int) ((rd t581 ((L.length : Int) + (n : Int))) != 0)) (fun k => ?_) ?_
    · simp only [nat_Divide.l1]
      rw [if_pos (by simpa using hbo1), i64_id (show -9223372036854775808 ≤ (L.length : Int) + (n : Int) by omega) (by omega)]
      have hlen : (L.length : Int) + (n : Int) < ((L ++ X ++ T).length : Int) := by simp only [List.length_append]; omega
      simp only [if_pos (show 0 ≤ (L.length : Int) + (n : Int) by omega), if_pos hlen]
      rw [show ((q + (t + 1) : Nat) : Int) - 1 = ((q + t : Nat) : Int) by omega, u64_id (by omega) (by omega)]
    · refine Ev.bind hg ?_
      rw [hrdp, htoo]
      exact hrec
theorem part_lt {U : List Int} {j n : Nat} {v : Nat} (ok : Num.okW U) (hj : j + n + 1 ≤ U.length) (h : Num.valN (U.drop (j + 1)) < v) (hv : v ≤ 4294967296 ^ n) :
    Num.valN (U.drop (j + n + 1)) = 0 ∧ Num.valN ((U.take (j + n + 1)).drop j) < 4294967296 * v := by
  have e1 : U.drop (j + 1) = (U.drop (j + 1)).take n ++ (U.drop (j + 1)).drop n := (List.take_append_drop _ _).symm
  have l1 : ((U.drop (j + 1)).take n).length = n := by rw [List.length_take, List.length_drop]; omega
  have e2 : Num.valN (U.drop (j + 1)) = Num.valN ((U.drop (j + 1)).take n) + 4294967296 ^ n * Num.valN (U.drop (j + n + 1)) := by
    rw [e1, Num.valN_append, l1, ← e1, List.drop_drop, show j + 1 + n = j + n + 1 by omega]
  have h0 : Num.valN (U.drop (j + n + 1)) = 0 := by
    rcases Nat.eq_zero_or_pos (Num.valN (U.drop (j + n + 1))) with h0 | h0
    · exact h0
    · have : 4294967296 ^ n * 1 ≤ 4294967296 ^ n * Num.valN (U.drop (j + n + 1)) := Nat.mul_le_mul_left _ h0
      omega
  refine ⟨h0, ?_⟩
  have e3 : (U.take (j + n + 1)).drop j = rd U (j : Int) :: (U.drop (j + 1)).take n := by
    rw [List.drop_take, show j + n + 1 - j = n + 1 by omega, List.drop_eq_getElem_cons (by omega), List.take_succ_cons, rd_getD, List.getD_eq_getElem?_getD, List.getElem?_eq_getElem (by omega)]
    rfl
  have orx := rd_ok ok j
  rw [e3, Num.valN]
  rw [h0, Nat.mul_zero, Nat.add_zero] at e2
  omega

theorem val_zero_rep {Q : List Int} {j : Nat} {v : Int} (hj : j < Q.length) (h0 : rd Q (j : Int) = 0) (hv : 0 ≤ v) : Num.valN (Q.set j v) = Num.valN Q + 4294967296 ^ j * v.toNat := by
  have e1 : Q = Q.take j ++ 0 :: Q.drop (j + 1) := by
    have : (0 : Int) = Q[j] := by rw [← h0, rd_getD, List.getD_eq_getElem?_getD, List.getElem?_eq_getElem hj]; rfl
    rw [this, List.getElem_cons_drop, List.take_append_drop]
  have e2 : Q.set j v = Q.take j ++ v :: Q.drop (j + 1) := by
    rw [List.set_eq_take_append_cons_drop, if_pos hj]
  have lt : (Q.take j).length = j := by rw [List.length_take]; omega
  rw [e2]
  conv => rhs; rw [e1]
  rw [Num.valN_append, Num.valN_append, lt]
  simp only [Num.valN, Int.toNat_zero, Nat.zero_add, Nat.mul_add]
  omega
theorem divr_l2 {u : List Int} {q : List Int} (ok : Num.okW u) {s : Nat} (hs : s ≤ 32) {n : Nat} (hn : n ≤ 1000000) (hu : n + 1 ≤ u.length) (hul : u.length ≤ 100000000) (hlt : Num.valN u < 4294967296 ^ n) (oq : Num.okW q) (hq : q.length ≤ 100000000) (d : Nat) : ∀ i : Nat, i + d = n →
    Ev (fun k => nat_Divide.l2 k q ((rsW s u).take i ++ List.replicate d 0) (s : Int) u (n : Int) (i : Int)) (Num.wordsN (Num.valN q), Num.wordsN (Num.valN u / 2 ^ s), (0 : Int)) := by
  have hrl := rsW_len s u
  induction d with
  | zero =>
    intro i hi
    refine Ev.step (f := fun k => (nat_trim.f k q).bind fun t590 => ((nat_trim.f k ((rsW s u).take n)).bind fun t593 => (some (t590, t593, (0 : Int))))) (fun k => ?_) ?_
    · simp only [nat_Divide.l2]
      rw [if_neg (by omega), List.replicate_zero, List.append_nil, show i = n by omega]
    · refine Ev.bind (ev_trim q (by omega)) (Ev.bind (ev_trim _ (by rw [List.length_take]; omega)) ?_)
      rw [Num.trim_words oq, Num.trim_words (Num.okW_take (rsW_ok s u) n), val_take_of_lt (by rw [rsW_val hs u ok]; exact Nat.lt_of_le_of_lt (Nat.div_le_self _ _) hlt), rsW_val hs u ok]
      exact Ev.now _
  | succ d ih =>
    intro i hi
    have ox := rd_ok ok i
    have ox1 := rd_ok ok (i + 1)
    obtain ⟨a, ha⟩ := Int.eq_ofNat_of_zero_le ox.1
    obtain ⟨b, hb⟩ := Int.eq_ofNat_of_zero_le ox1.1
    have Ew := Aside0.mk (show wrap64 ((i : Int) + 1) = ((i + 1 : Nat) : Int) by rw [i64_id (by omega) (by omega)]; rfl)
    have hlt' : ((rsW s u).take i).length = i := by rw [List.length_take, rsW_len]; omega
    have hg := rsW_get s u i (by omega)
    rw [ha, hb, Int.toNat_natCast, Int.toNat_natCast] at hg
    have Hset := Aside0.mk (show ((rsW s u).take i ++ List.replicate (d + 1) 0).set i ((rsW s u).getD i 0) = (rsW s u).take (i + 1) ++ List.replicate d 0 by
      have := set_next ((rsW s u).take i) d ((rsW s u).getD i 0)
      rw [hlt'] at this
      rw [this, take_next (by rw [rsW_len]; omega)])
    have hl : ((rsW s u).take i ++ List.replicate (d + 1) 0).length = n := by rw [List.length_append, hlt', List.length_replicate]; omega
    have Hval := Aside0.mk (show (((a + 4294967296 * b) / 2 ^ s : Nat) : Int) % 4294967296 = (rsW s u).getD i 0 by rw [hg]; generalize (a + 4294967296 * b) / 2 ^ s = z; omega)
    clear hg hlt
    refine Ev.step (fun k => ?_) (ih (i + 1) (by omega))
    simp only [nat_Divide.l2]
    rw [if_pos (by omega), Ew.out, if_pos (by omega), if_pos (by omega), if_pos (by omega), if_pos (by omega), if_pos (by omega), if_pos (by omega), ha, hb, or_words (by omega) (by omega), shr_val hs, Hval.out, Int.toNat_natCast, Hset.out]
/-- the digits, the highest first -/
theorem div_l0 {V : List Int} {n s : Nat} (oV : Num.okW V) (hV : V.length = n + 2) (hn : n ≤ 100000) (hs : s ≤ 32) (hv1 : 0 < rd V ((n + 1 : Nat) : Int)) (qn : Nat) (hqn : qn ≤ 1000000) (A : Nat) (m : Nat) :
    ∀ (Q U : List Int), m ≤ qn → Q.length = qn → U.length = n + 2 + qn → Num.okW Q → Num.okW U → 0 < qn →
      Num.valN Q * Num.valN V + Num.valN U = A → (∀ i : Nat, i < m → rd Q (i : Int) = 0) → Num.valN (U.drop m) < Num.valN V →
      Ev (fun k => nat_Divide.l0 k Q (s : Int) U V ((n + 2 : Nat) : Int) ((m : Int) - 1)) (Num.wordsN (A / Num.valN V), Num.wordsN (A % Num.valN V / 2 ^ s), (0 : Int)) := by
  have hVB : Num.valN V < 4294967296 ^ (n + 2) := by have := Num.valN_lt oV; rw [hV] at this; exact this
  have orv1 := rd_ok oV (n + 1)
  have orv0 := rd_ok oV n
  obtain ⟨v1, hv1e⟩ := Int.eq_ofNat_of_zero_le orv1.1
  obtain ⟨v0, hv0e⟩ := Int.eq_ofNat_of_zero_le orv0.1
  have topV1 := top_word oV (n := n + 1) (by omega)
  have nextV : Num.valN (V.take (n + 1)) = Num.valN (V.take n) + 4294967296 ^ n * v0 := by
    have := Num.val_take_next V n
    rw [← rd_toNat, hv0e, Int.toNat_natCast] at this
    exact this
  have rV : Num.valN (V.take n) < 4294967296 ^ n := by
    have := Num.valN_lt (Num.okW_take oV n)
    rw [List.length_take, Nat.min_eq_left (by omega)] at this
    exact this
  have hVdec : Num.valN V = Num.valN (V.take n) + 4294967296 ^ n * (v0 + 4294967296 * v1) := by
    rw [topV1.1, nextV, hv1e, Int.toNat_natCast, Nat.pow_succ, Nat.mul_add, ← Nat.mul_assoc]
    omega
  have hVpos : 0 < Num.valN V := by
    rw [hVdec]
    have h1 : 4294967296 ^ n * 1 ≤ 4294967296 ^ n * (v0 + 4294967296 * v1) := Nat.mul_le_mul_left _ (by omega)
    have h2 : 0 < 4294967296 ^ n := Nat.pow_pos (by decide)
    omega
  have hv1' : 0 < v1 ∧ v1 < 4294967296 := by omega
  have hv0' : v0 < 4294967296 := by omega
  clear topV1 nextV
  induction m with
  | zero =>
    intro Q U _ hQ hU oQ oU hq0 hA _ hlt
    rw [List.drop_zero] at hlt
    have e1 : A / Num.valN V = Num.valN Q := by
      rw [← hA, Nat.add_comm, Nat.add_mul_div_right _ _ hVpos, Nat.div_eq_of_lt hlt, Nat.zero_add]
    have e2 : A % Num.valN V = Num.valN U := by
      rw [← hA, Nat.add_comm, Nat.add_mul_mod_self_right, Nat.mod_eq_of_lt hlt]
    rw [e1, e2]
    have h := divr_l2 oU hs (n := n + 2) (by omega) (by omega) (by omega) (Nat.lt_trans hlt hVB) oQ (by omega) (n + 2) 0 (by omega)
    refine Ev.step (fun k => ?_) h
    simp only [nat_Divide.l0]
    rw [if_neg (by omega), if_pos (by omega), if_pos (by omega), Option.bind_some, Int.toNat_natCast, List.length_replicate, List.take_zero, List.nil_append]
    rfl
  | succ j ih =>
    intro Q U hm hQ hU oQ oU hq0 hA hz hlt
    obtain ⟨hT0, hXlt⟩ := part_lt oU (j := j) (n := n + 2) (by omega) hlt (Nat.le_of_lt hVB)
    have hUe := three (U := U) (j := j) (h := j + (n + 2) + 1) (by omega)
    have oX : Num.okW ((U.take (j + (n + 2) + 1)).drop j) := Num.okW_drop (Num.okW_take oU _) _
    have lX : ((U.take (j + (n + 2) + 1)).drop j).length = n + 2 + 1 := by rw [List.length_drop, List.length_take]; omega
    have lL : (U.take j).length = j := by rw [List.length_take]; omega
    have oL : Num.okW (U.take j) := Num.okW_take oU _
    have oT : Num.okW (U.drop (j + (n + 2) + 1)) := Num.okW_drop oU _
    have lT : (U.drop (j + (n + 2) + 1)).length = qn - j - 1 := by rw [List.length_drop]; omega
    generalize U.drop (j + (n + 2) + 1) = T at *
    generalize (U.take (j + (n + 2) + 1)).drop j = X at *
    generalize U.take j = L at *
    subst hUe
    -- the part's highest words
    have r2 := rd_ok oX (n + 2)
    have r1 := rd_ok oX (n + 1)
    have r0 := rd_ok oX n
    obtain ⟨u2, hu2⟩ := Int.eq_ofNat_of_zero_le r2.1
    obtain ⟨u1, hu1⟩ := Int.eq_ofNat_of_zero_le r1.1
    obtain ⟨u0, hu0⟩ := Int.eq_ofNat_of_zero_le r0.1
    have hu2' : u2 < 4294967296 := by omega
    have hu1' : u1 < 4294967296 := by omega
    have hu0' : u0 < 4294967296 := by omega
    have rX : Num.valN (X.take n) < 4294967296 ^ n := by
      have := Num.valN_lt (Num.okW_take oX n)
      rw [List.length_take, Nat.min_eq_left (by omega)] at this
      exact this
    have hXdec : Num.valN X = Num.valN (X.take n) + 4294967296 ^ n * (u0 + 4294967296 * (u1 + 4294967296 * u2)) := by
      have a1 := (top_word oX (n := n + 2) (by omega)).1
      have a2 := Num.val_take_next X (n + 1)
      have a3 := Num.val_take_next X n
      rw [← rd_toNat, hu1, Int.toNat_natCast] at a2
      rw [← rd_toNat, hu0, Int.toNat_natCast] at a3
      rw [a1, a2, a3, hu2, Int.toNat_natCast]
      clear a1 a2 a3
      simp only [Nat.pow_succ, Nat.mul_add, ← Nat.mul_assoc]
      omega
    have hm21 := digit_top hXdec hVdec rV hv0' hXlt
    obtain ⟨m, hmB, hmv, hmq, hgev⟩ := ev_guess u2 u1 u0 v1 v0 hu2' hu1' hu0' hv1' hv0' hm21
    obtain ⟨_, hqm, hmV⟩ := digit_bound (Nat.pow_pos (by decide)) hXdec rX hu0' hu1' hVdec rV hv0' hXlt hv1'.1 hmB hmv hmq
    have hmV' : m * Num.valN V ≤ Num.valN X + 4294967296 ^ (n + 2) := by
      rw [Nat.pow_succ, Nat.pow_succ]; exact hmV
    obtain ⟨X', oX', lX', bo, hbo, hval, htev⟩ := ev_take X V oX oV m hmB (by omega) (by omega)
    rw [lX] at hval
    have hdm := Nat.div_add_mod (Num.valN X) (Num.valN V)
    have hml := Nat.mod_lt (Num.valN X) hVpos
    obtain ⟨q, hq⟩ : ∃ q, q = Num.valN X / Num.valN V := ⟨_, rfl⟩
    rw [← hq] at hqm hdm
    obtain ⟨t, ht⟩ : ∃ t, m = q + t := ⟨m - q, by omega⟩
    have hA0 : rd Q (j : Int) = 0 := hz j (by omega)
    have hcont : ∀ X2 : List Int, Num.okW X2 → X2.length = n + 2 + 1 → Num.valN X2 = Num.valN X % Num.valN V → Ev (fun k => nat_Divide.l0 k (Q.set L.length (q : Int)) (s : Int) (L ++ X2 ++ T) V ((n + 2 : Nat) : Int) ((L.length : Int) - 1)) (Num.wordsN (A / Num.valN V), Num.wordsN (A % Num.valN V / 2 ^ s), (0 : Int)) := by
      intro X2 oX2 lX2 hX2
      rw [lL]
      refine ih (Q.set j (q : Int)) (L ++ X2 ++ T) (by omega) (by rw [List.length_set]; exact hQ) (by simp only [List.length_append] at hU ⊢; omega) ?_ ?_ hq0 ?_ ?_ ?_
      · intro z hz2
        rcases List.mem_or_eq_of_mem_set hz2 with h | h
        · exact oQ z h
        · rw [h]; clear hval hdm hml hmV hmV' hA hlt hXlt; omega
      · exact Num.okW_append.2 ⟨Num.okW_append.2 ⟨oL, oX2⟩, oT⟩
      · rw [val_zero_rep (by omega) hA0 (Int.natCast_nonneg _), Int.toNat_natCast, three_val, hX2, lX2, lL, hT0, Nat.mul_zero, Nat.add_zero]
        rw [three_val, lX, lL, hT0, Nat.mul_zero, Nat.add_zero] at hA
        rw [Nat.add_mul, ← hA]
        have e5 : 4294967296 ^ j * q * Num.valN V + 4294967296 ^ j * (Num.valN X % Num.valN V) = 4294967296 ^ j * Num.valN X := by
          rw [Nat.mul_assoc, ← Nat.mul_add, Nat.mul_comm q, hdm]
        omega
      · intro i hi
        have : rd (Q.set j (q : Int)) (i : Int) = rd Q (i : Int) := by
          rw [rd_getD, rd_getD, List.getD_eq_getElem?_getD, List.getD_eq_getElem?_getD, List.getElem?_set_ne (by omega)]
        rw [this]
        exact hz i (by omega)
      · rw [List.append_assoc, List.drop_left' lL, Num.valN_append, hT0, Nat.mul_zero, Nat.add_zero, hX2]
        exact hml
    have hin := div_l1 (V := V) (L := L) (T := T) (Q := Q) (by_ := (s : Int)) (n := n + 2) oV hV (by omega) (by omega) (by omega) hVpos (Num.valN X) q hq (by omega) hcont t X' bo oX' (by omega) (by omega) hbo (by rw [← ht]; exact hval) (by rw [← ht]; exact hmV')
    rw [← ht] at hin
    have htk := takeAt_ev (L := L) (T := T) (n := n + 2) lX (by omega) htev
    have p2 : rd (L ++ X ++ T) ((j + (n + 2) : Nat) : Int) = (u2 : Int) := by
      have := rd_part (L := L) (X := X) (T := T) (i := n + 2) (by omega)
      rw [lL] at this
      rw [this, hu2]
    have p1 : rd (L ++ X ++ T) ((j + (n + 1) : Nat) : Int) = (u1 : Int) := by
      have := rd_part (L := L) (X := X) (T := T) (i := n + 1) (by omega)
      rw [lL] at this
      rw [this, hu1]
    have p0 : rd (L ++ X ++ T) ((j + n : Nat) : Int) = (u0 : Int) := by
      have := rd_part (L := L) (X := X) (T := T) (i := n) (by omega)
      rw [lL] at this
      rw [this, hu0]
    refine Ev.step (f := fun k => (nat_guess.f k (u2 : Int) (u1 : Int) (u0 : Int) (v1 : Int) (v0 : Int)).bind fun t578 => ((nat_takeAt.f k (L ++ X ++ T) (j : Int) ((n + 2 : Nat) : Int) V t578).bind fun bt579 => (nat_Divide.l1 k Q (s : Int) bt579.2 V ((n + 2 : Nat) : Int) (j : Int) t578 bt579.1))) (fun k => ?_) ?_
    · clear hin hcont ih hval hdm hml hmV hmV' hA hlt hXlt hXdec hVdec rX rV hVB hVpos hq hqm hmq hmv
      have hlen : (L ++ X ++ T).length = n + 2 + qn := hU
      have w0 := Aside0.mk (show wrap64 (((j + 1 : Nat) : Int) - 1 + ((n + 2 : Nat) : Int)) = ((j + (n + 2) : Nat) : Int) by rw [i64_id (by omega) (by omega)]; omega)
      have w1 := Aside0.mk (show wrap64 (((j + (n + 2) : Nat) : Int) - 1) = ((j + (n + 1) : Nat) : Int) by rw [i64_id (by omega) (by omega)]; omega)
      have w2 := Aside0.mk (show wrap64 (((j + (n + 2) : Nat) : Int) - 2) = ((j + n : Nat) : Int) by rw [i64_id (by omega) (by omega)]; omega)
      have w3 := Aside0.mk (show wrap64 (((n + 2 : Nat) : Int) - 1) = ((n + 1 : Nat) : Int) by rw [i64_id (by omega) (by omega)]; omega)
      have w4 := Aside0.mk (show wrap64 (((n + 2 : Nat) : Int) - 2) = (n : Int) by rw [i64_id (by omega) (by omega)]; omega)
      simp only [nat_Divide.l0]
      rw [if_pos (by omega), w0.out, if_pos (by omega), if_pos (by omega), w1.out, if_pos (by omega), if_pos (by omega), w2.out, if_pos (by omega), if_pos (by omega), w3.out, if_pos (by omega), if_pos (by omega), w4.out, if_pos (by omega), if_pos (by omega), p2, p1, p0, hv1e, hv0e]
      rw [show ((j + 1 : Nat) : Int) - 1 = (j : Int) by omega]
    · refine Ev.bind hgev ?_
      rw [lL] at htk hin
      refine Ev.bind htk ?_
      exact hin

end Go.Proofs.YtkihjfpfocnneaaDoor.Pure

namespace Go.Proofs.YtkihjfpfocnneaaDoor.Pure
open Go.RowKit Go.Proofs.YtkihjfpfocnneaaDoor.PNat Go.Proofs.YtkihjfpfocnneaaDoorW.PrintWords Go.Proofs.YtkihjfpfocnneaaDoorW.PrintLast Go.Proofs.YtkihjfpfocnneaaDoorW.PrintMore
set_option linter.unusedVariables false
set_option linter.unusedSimpArgs false
/-- quotient, rest and error -/
def divW (a b : Nat) : List Int × List Int × Int := if 2000 < (Num.wordsN a).length ∨ 2000 < (Num.wordsN b).length then ([], [], 2) else if b = 0 then ([], [], 1) else (Num.wordsN (a / b), Num.wordsN (a % b), 0)
theorem ev_some {α β : Type} {o : Option α} {x : α} {g : Nat → α → Option β} {r : β} (h : o = some x) (e : Ev (fun k => g k x) r) : Ev (fun k => o.bind (g k)) r := by
  subst h
  exact e
theorem div_main {t0 t1 : List Int} (o0 : Num.okW t0) (o1 : Num.okW t1) (n0 : Num.normed t0) (n1 : Num.normed t1) (h0 : t0.length ≤ 2000) (h1 : t1.length ≤ 2000) (h2 : 2 ≤ t1.length) (hle : Num.valN t1 ≤ Num.valN t0) {b : Int} (hb : b = rd t1 ((t1.length : Int) - 1)) :
    Ev (fun k => (bits_LeadingZeros32.f b).bind fun t559 => ((nat_moved.f k t0 t559).bind fun t560 => ((nat_moved.f k t1 t559).bind fun t563 => (if 0 ≤ (t1.length : Int) then (if (t1.length : Int) ≤ (t563.length : Int) then ((some (t563.take ((t1.length : Int) : Int).toNat : List Int)).bind fun y566 => (if 0 ≤ (wrap64 ((wrap64 ((t0.length : Int) - (y566.length : Int))) + 1)) then (if (wrap64 ((wrap64 ((t0.length : Int) - (y566.length : Int))) + 1) : Int).toNat ≤ 70368744177664 then ((some (List.replicate (wrap64 ((wrap64 ((t0.length : Int) - (y566.length : Int))) + 1) : Int).toNat 0 : List Int)).bind fun y570 => (nat_Divide.l0 k y570 t559 t560 y566 (y566.length : Int) (wrap64 ((y570.length : Int) - 1)))) else (none)) else (none))) else (none)) else (none)))))
      (Num.wordsN (Num.valN t0 / Num.valN t1), Num.wordsN (Num.valN t0 % Num.valN t1), (0 : Int)) := by
  obtain ⟨n, hn⟩ : ∃ n, t1.length = n + 2 := ⟨t1.length - 2, by omega⟩
  have hl10 : t1.length ≤ t0.length := by
    rcases Nat.lt_or_ge t0.length t1.length with h | h
    · have := Num.lt_of_len o0 o1 n1 h; omega
    · exact h
  have otop := rd_ok o1 (n + 1)
  have hb2 : b = rd t1 ((n + 1 : Nat) : Int) := by rw [hb]; congr 1; omega
  have hw := Num.bitsN_words o1 n1 (n + 1) hn
  rw [← rd_toNat] at hw
  have hbv := Num.bitsN_lt (Num.valN t1)
  have hge := Num.val_ge o1 n1 (n + 1) hn
  have hvp : 0 < Num.valN t1 := Nat.lt_of_lt_of_le (Nat.pow_pos (by decide)) hge
  have htop1 : Num.bitsN (rd t1 ((n + 1 : Nat) : Int)).toNat ≤ 32 := by
    have e1 := Num.bitsN_mono (show (rd t1 ((n + 1 : Nat) : Int)).toNat ≤ 4294967295 by omega)
    have e2 : Num.bitsN 4294967295 = 32 := Num.bitsN_eq (by decide) (by decide)
    omega
  have htop0 : 0 < Num.bitsN (rd t1 ((n + 1 : Nat) : Int)).toNat := by
    rcases Nat.eq_zero_or_pos (rd t1 ((n + 1 : Nat) : Int)).toNat with h | h
    · exfalso
      have tw := top_word o1 (n := n + 1) (by omega)
      rw [h, Nat.mul_zero, Nat.add_zero] at tw
      omega
    · exact Num.bitsN_pos h
  have hlz : bits_LeadingZeros32.f b = some ((32 - Num.bitsN (rd t1 ((n + 1 : Nat) : Int)).toNat : Nat) : Int) := by
    unfold bits_LeadingZeros32.f
    rw [hb2, if_pos (by omega), Num.bitLen_bitsN (by omega)]
    congr 1
    omega
  obtain ⟨s, hs⟩ : ∃ s, s = 32 - Num.bitsN (rd t1 ((n + 1 : Nat) : Int)).toNat := ⟨_, rfl⟩
  rw [← hs] at hlz
  have hs1 : s < 32 := by omega
  have hbits : Num.bitsN (Num.valN t1) + s = 32 * (n + 2) := by omega
  obtain ⟨U, oU, lU, vU, evU⟩ := ev_moved t0 o0 (by omega) s hs1
  obtain ⟨V1, oV1, lV1, vV1, evV⟩ := ev_moved t1 o1 (by omega) s hs1
  have hVlt : Num.valN V1 < 4294967296 ^ (n + 2) := by
    rw [vV1, pow_words, ← hbits, Nat.pow_add]
    exact Nat.mul_lt_mul_of_pos_right hbv (Nat.two_pow_pos s)
  have lV : (V1.take (n + 2)).length = n + 2 := by rw [List.length_take]; omega
  have vV : Num.valN (V1.take (n + 2)) = Num.valN t1 * 2 ^ s := by rw [val_take_of_lt hVlt, vV1]
  have oV := Num.okW_take oV1 (n + 2)
  obtain ⟨V, hVd⟩ : ∃ V, V = V1.take (n + 2) := ⟨_, rfl⟩
  rw [← hVd] at lV vV oV
  have hvtop : 0 < rd V ((n + 1 : Nat) : Int) := by
    have tw := top_word oV (n := n + 1) (by omega)
    have o := rd_ok oV (n + 1)
    rcases Nat.eq_zero_or_pos (rd V ((n + 1 : Nat) : Int)).toNat with h | h
    · exfalso
      rw [h, Nat.mul_zero, Nat.add_zero, vV] at tw
      have : Num.valN t1 * 1 ≤ Num.valN t1 * 2 ^ s := Nat.mul_le_mul_left _ (Nat.two_pow_pos s)
      omega
    · omega
  have hUd : Num.valN (U.drop (t0.length - (n + 2) + 1)) < Num.valN V := by
    rw [drop_words_val oU, vU, vV]
    have h3 : Num.valN t0 < 4294967296 ^ t0.length := Num.valN_lt o0
    rw [Nat.div_lt_iff_lt_mul (Nat.pow_pos (by decide))]
    have h4 : Num.valN t0 * 2 ^ s < 4294967296 ^ t0.length * 2 ^ s := Nat.mul_lt_mul_of_pos_right h3 (Nat.two_pow_pos s)
    have h5 : 4294967296 ^ t0.length = 4294967296 ^ (n + 1) * 4294967296 ^ (t0.length - (n + 2) + 1) := by rw [← Nat.pow_add]; congr 1; omega
    have h6 : 4294967296 ^ (n + 1) * (2 ^ s * 4294967296 ^ (t0.length - (n + 2) + 1)) ≤ Num.valN t1 * (2 ^ s * 4294967296 ^ (t0.length - (n + 2) + 1)) := Nat.mul_le_mul_right _ hge
    rw [h5] at h4
    rw [Nat.mul_assoc (Num.valN t1)]
    rw [Nat.mul_assoc, Nat.mul_comm (4294967296 ^ (t0.length - (n + 2) + 1)) (2 ^ s)] at h4
    exact Nat.lt_of_lt_of_le h4 h6
  have hmain := div_l0 oV lV (by omega) (s := s) (by omega) hvtop (t0.length - (n + 2) + 1) (by omega) (Num.valN t0 * 2 ^ s) (t0.length - (n + 2) + 1) (List.replicate (t0.length - (n + 2) + 1) 0) U (Nat.le_refl _) (List.length_replicate ..) (by omega) (okW_zeros _) oU (by omega) (by
      have : Num.valN (List.replicate (t0.length - (n + 2) + 1) 0) = 0 := by
        have := val_zeros (t0.length - (n + 2) + 1) []
        simpa [Num.valN] using this
      rw [this, Nat.zero_mul, Nat.zero_add, vU]) (fun i hi => by rw [rd_getD, List.getD_eq_getElem?_getD, List.getElem?_replicate, if_pos hi]; rfl) hUd
  rw [vV, Nat.mul_div_mul_right _ _ (Nat.two_pow_pos s), Nat.mul_mod_mul_right, Nat.mul_div_cancel _ (Nat.two_pow_pos s)] at hmain
  refine ev_some hlz (Ev.bind evU (Ev.bind evV ?_))
  have w0 := Aside0.mk (show wrap64 ((t0.length : Int) - ((n + 2 : Nat) : Int)) = ((t0.length - (n + 2) : Nat) : Int) by rw [i64_id (by omega) (by omega)]; omega)
  have w1 := Aside0.mk (show wrap64 (((t0.length - (n + 2) : Nat) : Int) + 1) = ((t0.length - (n + 2) + 1 : Nat) : Int) by rw [i64_id (by omega) (by omega)]; omega)
  have w2 := Aside0.mk (show wrap64 (((t0.length - (n + 2) + 1 : Nat) : Int) - 1) = ((t0.length - (n + 2) + 1 : Nat) : Int) - 1 from i64_id (by omega) (by omega))
  have c1 : 0 ≤ (t1.length : Int) := by omega
  have c2 : (t1.length : Int) ≤ (V1.length : Int) := by omega
  have c3 : ((t1.length : Int) : Int).toNat = n + 2 := by omega
  have c4 : 0 ≤ ((t0.length - (n + 2) + 1 : Nat) : Int) := by omega
  have c5 : t0.length - (n + 2) + 1 ≤ 70368744177664 := by omega
  refine Ev.congr (fun k => ?_) hmain
  rw [if_pos c1, if_pos c2, c3, ← hVd, Option.bind_some, lV, w0.out, w1.out, if_pos c4, Int.toNat_natCast, if_pos c5, Option.bind_some, List.length_replicate, w2.out]
theorem ev_div (l0 l1 : List Int) (o0 : Num.okW l0) (o1 : Num.okW l1) (h0 : l0.length ≤ 100000000) (h1 : l1.length ≤ 100000000) : Ev (fun k => nat_Divide.f k l0 l1) (divW (Num.valN l0) (Num.valN l1)) := by
  have e0 := Num.trim_words o0
  have e1 := Num.trim_words o1
  have ht0 := Num.okW_trim o0
  have ht1 := Num.okW_trim o1
  unfold nat_Divide.f divW
  rw [← e0, ← e1]
  refine Ev.bind (ev_large l0 (by omega)) ?_
  have big : Ev (fun k => nat_Divide.j0 k l0 l1 true) (([] : List Int), ([] : List Int), (2 : Int)) := by
    refine Ev.step (f := fun _ => some (([] : List Int), ([] : List Int), (2 : Int))) (fun k => ?_) (Ev.now _)
    simp only [nat_Divide.j0, if_true]
  by_cases c0 : 2000 < (Num.trimW l0).length
  · simp only [decide_eq_true c0, if_true, if_pos (show 2000 < (Num.trimW l0).length ∨ 2000 < (Num.trimW l1).length from .inl c0)]
    exact big
  · simp only [decide_eq_false c0, Bool.false_eq_true, if_false]
    refine Ev.bind (ev_large l1 (by omega)) ?_
    by_cases c1 : 2000 < (Num.trimW l1).length
    · simp only [decide_eq_true c1, if_pos (show 2000 < (Num.trimW l0).length ∨ 2000 < (Num.trimW l1).length from .inr c1)]
      exact big
    · rw [if_neg (show ¬ (2000 < (Num.trimW l0).length ∨ 2000 < (Num.trimW l1).length) by omega)]
      simp only [decide_eq_false c1]
      refine Ev.step (fun k => by simp only [nat_Divide.j0, Bool.false_eq_true, if_false]; rfl) ?_
      refine Ev.bind (ev_trim l0 (by omega)) (Ev.bind (ev_trim l1 (by omega)) ?_)
      have n0 := Num.normed_trim l0
      have n1 := Num.normed_trim l1
      rw [← Num.trimW_val l0, ← Num.trimW_val l1]
      clear e0 e1 h0 h1
      generalize Num.trimW l0 = t0 at *
      generalize Num.trimW l1 = t1 at *
      by_cases z : t1.length = 0
      · have : t1 = [] := List.length_eq_zero_iff.1 z
        subst this
        refine Ev.congr (f := fun _ => some (([] : List Int), ([] : List Int), (1 : Int))) (fun k => by rw [if_pos (by simp)]) ?_
        rw [if_pos (show Num.valN [] = 0 from rfl)]
        exact Ev.now _
      · have hv : 0 < Num.valN t1 := Num.val_pos ht1 n1 (by intro h; rw [h] at z; exact z rfl)
        rw [if_neg (show ¬ Num.valN t1 = 0 by omega)]
        refine Ev.congr (f := fun k => (nat_Compare.f k t0 t1).bind fun t540 => _) (fun k => by rw [if_neg (by omega)]) ?_
        refine Ev.bind (ev_cmp t0 t1 ht0 ht1 (by omega) (by omega)) ?_
        by_cases lt : Num.valN t0 < Num.valN t1
        · refine Ev.congr (f := fun _ => some (([] : List Int), t0, (0 : Int))) (fun k => ?_) ?_
          · rw [if_pos (Num.cmpN_neg.2 lt)]
            simp only [slices_Clone_uint32_uint32.f]
            rw [if_pos (by omega)]
            rfl
          · rw [Nat.div_eq_of_lt lt, Nat.mod_eq_of_lt lt, Num.wordsN_zero, Num.wordsN_of ht0 n0]
            exact Ev.now _
        · by_cases one : t1.length = 1
          · have ox := rd_ok ht1 0
            have hval : Num.valN t1 = (rd t1 (0 : Int)).toNat := by
              obtain ⟨x, rfl⟩ := List.length_eq_one_iff.1 one
              simp [Num.valN, rd]
            have hd : 0 < rd t1 (0 : Int) ∧ rd t1 (0 : Int) < 4294967296 := by
              have : rd t1 ((0 : Nat) : Int) = rd t1 (0 : Int) := rfl
              omega
            obtain ⟨q1, q2⟩ := Num.shq_val hd.1 ht0
            have q3 := Num.shq_ok hd.1 ht0
            have q4 := Num.shq_length (rd t1 (0 : Int)) t0
            have q5 := Num.shq_rest hd.1 t0
            refine Ev.congr (f := fun k => (nat_short.f k t0 (rd t1 0)).bind fun bt545 => ((nat_trim.f k bt545.1).bind fun t549 => ((nat_trim.f k (([bt545.2] : List Int))).bind fun t555 => (some (t549, t555, (0 : Int)))))) (fun k => by rw [if_neg (fun h => lt (Num.cmpN_neg.1 h)), if_pos (by omega), if_pos (by omega)]) ?_
            refine Ev.bind (ev_short t0 ht0 _ hd (by omega)) (Ev.bind (ev_trim _ (by omega)) (Ev.bind (ev_trim _ (by simp)) ?_))
            rw [Num.trim_words q3, Num.trim_words (Num.okW_cons.2 ⟨⟨q5.1, by omega⟩, Num.okW_nil⟩), q1, hval]
            have : Num.valN [(Num.shq (rd t1 0) t0).2] = Num.valN t0 % (rd t1 (0 : Int)).toNat := by
              rw [q2]
              simp only [Num.valN, Int.toNat_natCast, Nat.mul_zero, Nat.add_zero]
            rw [this]
            exact Ev.now _
          · refine Ev.congr (fun k => ?_) (div_main ht0 ht1 n0 n1 (by omega) (by omega) (by omega) (by omega) rfl)
            rw [if_neg (fun h => lt (Num.cmpN_neg.1 h)), if_neg (by omega), i64_id (x := (t1.length : Int) - 1) (by omega) (by omega), if_pos (by omega), if_pos (by omega)]

end Go.Proofs.YtkihjfpfocnneaaDoor.Pure

namespace Go.Proofs.YtkihjfpfocnneaaDoor.Pure
open Go.RowKit Go.Proofs.YtkihjfpfocnneaaDoor.PNat Go.Proofs.YtkihjfpfocnneaaDoorW.PrintWords Go.Proofs.YtkihjfpfocnneaaDoorW.PrintLast Go.Proofs.YtkihjfpfocnneaaDoorW.PrintMore
set_option linter.unusedVariables false
set_option linter.unusedSimpArgs false
theorem set_part {L X T : List Int} {t : Nat} {v : Int} (h : t < X.length) : (L ++ X ++ T).set (L.length + t) v = L ++ X.set t v ++ T := by
  rw [List.append_assoc, List.set_append_right _ _ (by omega), Nat.add_sub_cancel_left, List.set_append_left _ _ h, List.append_assoc]
theorem mul_carry {P vd vx vb p y x c : Nat} (h : vd + P * c = vx + p * vb) : vd + P * ((c + (p * y + x)) % 4294967296) + P * 4294967296 * ((c + (p * y + x)) / 4294967296) = (vx + P * x) + p * (vb + P * y) := by
  have e : P * ((c + (p * y + x)) % 4294967296) + P * 4294967296 * ((c + (p * y + x)) / 4294967296) = P * (c + (p * y + x)) := by
    rw [Nat.mul_assoc, ← Nat.mul_add, Nat.mod_add_div]
  rw [Nat.mul_add, Nat.mul_add P, Nat.mul_left_comm P p y] at e
  rw [Nat.mul_add p]
  omega
theorem mul_l1v {a b L X T : List Int} (ob : Num.okW b) (oX : Num.okW X) (hX : X.length = b.length + 1) (hX0 : rd X (b.length : Int) = 0) (hb : b.length ≤ 1000000) (hL : L.length ≤ 1000000) {p : Nat} (hp : p < 4294967296) (d : Nat) :
    ∀ (j : Nat) (dn : List Int) (c : Nat), j + d = b.length → dn.length = j → Num.okW dn → c < 4294967296 →
      Num.valN dn + 4294967296 ^ j * c = Num.valN (X.take j) + p * Num.valN (b.take j) →
      ∃ X' : List Int, Num.okW X' ∧ X'.length = b.length + 1 ∧ Num.valN X' = Num.valN X + p * Num.valN b ∧
        ∀ R : List Int × Int, Ev (fun k => nat_Mul.l0 k b (L ++ X' ++ T) a (a.length : Int) ((L.length + 1 : Nat) : Int)) R →
          Ev (fun k => nat_Mul.l1 k b (L ++ (dn ++ X.drop j) ++ T) (L.length : Int) (p : Int) (c : Int) a (a.length : Int) (L.length : Int) b (b.length : Int) (j : Int)) R := by
  induction d with
  | zero =>
    intro j dn c hj hd od hc hv
    have hjb : j = b.length := by omega
    have e2 : (dn ++ X.drop j).set b.length (c : Int) = dn ++ [(c : Int)] := by
      rw [← hjb, List.set_append_right _ _ (by omega), hd, Nat.sub_self, List.drop_eq_getElem_cons (by omega), List.set_cons_zero, List.drop_of_length_le (by omega)]
    have htop := (top_word oX (n := b.length) hX).1
    rw [hX0, Int.toNat_zero, Nat.mul_zero, Nat.add_zero] at htop
    refine ⟨dn ++ [(c : Int)], Num.okW_snoc od (by omega) (by omega), by rw [List.length_append, hd]; simp; omega, ?_, ?_⟩
    · rw [Num.val_snoc, hd, Int.toNat_natCast, hv, htop, ← hjb, List.take_of_length_le (l := b) (by omega)]
    · intro R hR
      refine Ev.step (fun k => ?_) hR
      have hlen : (L.length : Int) + (b.length : Int) < ((L ++ (dn ++ X.drop j) ++ T).length : Int) := by simp only [List.length_append, List.length_drop]; omega
      simp only [nat_Mul.l1]
      rw [if_neg (by omega), i64_id (x := (L.length : Int) + (b.length : Int)) (by omega) (by omega), if_pos (by omega), if_pos hlen, i64_id (x := (L.length : Int) + 1) (by omega) (by omega),
        show ((L.length : Int) + (b.length : Int)).toNat = L.length + b.length by omega, set_part (by simp only [List.length_append, List.length_drop]; omega), show ((c : Int)) % 4294967296 = (c : Int) by omega, e2]
      rfl
  | succ d ih =>
    intro j dn c hj hd od hc hv
    have ox := rd_ok oX j
    have oy := rd_ok ob j
    obtain ⟨x, hx⟩ := Int.eq_ofNat_of_zero_le ox.1
    obtain ⟨y, hy⟩ := Int.eq_ofNat_of_zero_le oy.1
    have hpy : p * y ≤ 4294967295 * 4294967295 := Nat.mul_le_mul (by omega) (by omega)
    have e1 : rd (dn ++ X.drop j) (j : Int) = (x : Int) := by
      rw [← hx, rd_getD, rd_getD, List.getD_eq_getElem?_getD, List.getD_eq_getElem?_getD, List.getElem?_append_right (by omega), hd, Nat.sub_self, List.getElem?_drop, Nat.add_zero]
    have e2 : ∀ z : Int, (dn ++ X.drop j).set j z = (dn ++ [z]) ++ X.drop (j + 1) := by
      intro z
      rw [List.set_append_right _ _ (by omega), hd, Nat.sub_self, List.drop_eq_getElem_cons (by omega), List.set_cons_zero]
      simp
    have hwl : (dn ++ X.drop j).length = b.length + 1 := by rw [List.length_append, List.length_drop]; omega
    have e3 : rd (L ++ (dn ++ X.drop j) ++ T) ((L.length : Int) + (j : Int)) = (x : Int) := by
      rw [← e1]
      have := rd_part (L := L) (X := dn ++ X.drop j) (T := T) (i := j) (by omega)
      rw [← this]
      congr 1
    have eT : IntKind.u64.wrap ((c : Int) + IntKind.u64.wrap (IntKind.u64.wrap (IntKind.u64.wrap (p : Int) * IntKind.u64.wrap (y : Int)) + IntKind.u64.wrap (x : Int))) = ((c + (p * y + x) : Nat) : Int) := by
      rw [u64_id (x := (p : Int)) (by omega) (by omega), u64_id (x := (y : Int)) (by omega) (by omega), u64_id (x := (x : Int)) (by omega) (by omega), ← Int.natCast_mul, u64_id (x := ((p * y : Nat) : Int)) (by omega) (by omega), ← Int.natCast_add, u64_id (x := ((p * y + x : Nat) : Int)) (by omega) (by omega), ← Int.natCast_add, u64_id (by omega) (by omega)]
    have hnext := mul_carry (y := y) (x := x) hv
    obtain ⟨t, ht⟩ : ∃ t, t = c + (p * y + x) := ⟨_, rfl⟩
    rw [← ht] at eT hnext
    have htl : t < 18446744073709551616 := by omega
    obtain ⟨X', o', l', v', hev⟩ := ih (j + 1) (dn ++ [((t % 4294967296 : Nat) : Int)]) (t / 4294967296) (by omega) (by simp [hd]) (Num.okW_snoc od (by omega) (by omega)) (by omega) (by
      rw [Num.val_snoc, hd, Int.toNat_natCast, Num.val_take_next, Num.val_take_next, ← rd_toNat, ← rd_toNat, hx, hy, Int.toNat_natCast, Int.toNat_natCast, Nat.pow_succ]
      exact hnext)
    refine ⟨X', o', l', v', fun R hR => Ev.step (fun k => ?_) (hev R hR)⟩
    have hlen : (L.length : Int) + (j : Int) < ((L ++ (dn ++ X.drop j) ++ T).length : Int) := by rw [List.length_append, List.length_append, hwl]; omega
    have Et := Aside0.mk eT
    have E3 := Aside0.mk e3
    clear eT e3 hnext hv v' hev
    simp only [nat_Mul.l1]
    rw [if_pos (by omega), if_pos (by omega), if_pos (by omega), i64_id (x := (L.length : Int) + (j : Int)) (by omega) (by omega), if_pos (by omega), if_pos hlen, i64_id (x := (j : Int) + 1) (by omega) (by omega), hy, E3.out, Et.out,
      show ((L.length : Int) + (j : Int)).toNat = L.length + j by omega, set_part (by omega), show ((t : Nat) : Int) % 4294967296 = ((t % 4294967296 : Nat) : Int) by omega, e2, show ((t : Nat) : Int) / 4294967296 = ((t / 4294967296 : Nat) : Int) by omega]
    rfl
theorem mul_l0v {a b : List Int} (oa : Num.okW a) (ob : Num.okW b) (ha : a.length ≤ 2000) (hb : b.length ≤ 2000) (d : Nat) : ∀ (i : Nat) (x6 : List Int), i + d = a.length → x6.length = a.length + b.length → Num.okW x6 →
    Num.valN x6 = Num.valN (a.take i) * Num.valN b → (∀ k : Nat, i + b.length ≤ k → rd x6 (k : Int) = 0) →
    Ev (fun k => nat_Mul.l0 k b x6 a (a.length : Int) (i : Int)) (fitV (Num.valN a * Num.valN b)) := by
  induction d with
  | zero =>
    intro i x6 hi hl o hv _
    refine Ev.step (f := fun k => (nat_fits.f k x6).bind fun bt => some (bt.1, bt.2)) (fun k => ?_) ?_
    · simp only [nat_Mul.l0]
      rw [if_neg (by omega)]
    · have := ev_fits x6 (by omega)
      rw [fitsW_V o, hv, List.take_of_length_le (by omega)] at this
      exact Ev.bind this (Ev.now _)
  | succ d ih =>
    intro i x6 hi hl o hv hz
    have op := rd_ok oa i
    obtain ⟨p, hp⟩ := Int.eq_ofNat_of_zero_le op.1
    have hUe := three (U := x6) (j := i) (h := i + b.length + 1) (by omega)
    have oX : Num.okW ((x6.take (i + b.length + 1)).drop i) := Num.okW_drop (Num.okW_take o _) _
    have lX : ((x6.take (i + b.length + 1)).drop i).length = b.length + 1 := by rw [List.length_drop, List.length_take]; omega
    have lL : (x6.take i).length = i := by rw [List.length_take]; omega
    have oL : Num.okW (x6.take i) := Num.okW_take o _
    have oT : Num.okW (x6.drop (i + b.length + 1)) := Num.okW_drop o _
    generalize x6.drop (i + b.length + 1) = T at *
    generalize (x6.take (i + b.length + 1)).drop i = X at *
    generalize x6.take i = L at *
    subst hUe
    have hX0 : rd X (b.length : Int) = 0 := by
      have h1 := rd_part (L := L) (X := X) (T := T) (i := b.length) (by omega)
      rw [← h1, lL]
      exact hz _ (Nat.le_refl _)
    obtain ⟨X', o', l', v', hev⟩ := mul_l1v (a := a) (L := L) (T := T) ob oX lX hX0 (by omega) (by omega) (p := p) (by omega) b.length 0 [] 0 (by omega) rfl Num.okW_nil (by decide) (by simp [Num.valN])
    rw [lL] at hev
    have hnext := ih (i + 1) (L ++ X' ++ T) (by omega) (by simp only [List.length_append] at hl ⊢; omega) (Num.okW_append.2 ⟨Num.okW_append.2 ⟨oL, o'⟩, oT⟩) (by
      rw [three_val, v', l', lL, Num.val_take_next, ← rd_toNat, hp, Int.toNat_natCast, Nat.add_mul, ← hv, three_val, lX, lL]
      rw [Nat.mul_add, Nat.mul_assoc (4294967296 ^ i)]
      omega) (fun k hk => by
      have h0 := hz k (by omega)
      have hk2 : ∀ Y : List Int, Y.length = b.length + 1 → rd (L ++ Y ++ T) (k : Int) = rd T ((k - (i + b.length + 1) : Nat) : Int) := by
        intro Y hY
        rw [rd_getD, rd_getD, List.getD_eq_getElem?_getD, List.getD_eq_getElem?_getD, List.getElem?_append_right (by rw [List.length_append]; omega), List.length_append, lL, hY]
        rfl
      rw [hk2 X' l', ← hk2 X lX]
      exact h0)
    have h3 := hev _ hnext
    refine Ev.step (fun k => ?_) h3
    simp only [nat_Mul.l0]
    rw [if_pos (by omega), if_pos (by omega), if_pos (by omega), hp, List.drop_zero, List.nil_append]
    rfl
/-- a product, or the refusal of what is large -/
def mulW (a b : Nat) : List Int × Int := if 2000 < (Num.wordsN a).length ∨ 2000 < (Num.wordsN b).length then ([], 2) else fitV (a * b)
theorem ev_mul (l0 l1 : List Int) (o0 : Num.okW l0) (o1 : Num.okW l1) (h0 : l0.length ≤ 100000000) (h1 : l1.length ≤ 100000000) : Ev (fun k => nat_Mul.f k l0 l1) (mulW (Num.valN l0) (Num.valN l1)) := by
  have e0 := Num.trim_words o0
  have e1 := Num.trim_words o1
  unfold nat_Mul.f mulW
  rw [← e0, ← e1]
  refine Ev.bind (ev_large l0 (by omega)) ?_
  have big : Ev (fun k => nat_Mul.j0 k l0 l1 true) (([] : List Int), (2 : Int)) := by
    refine Ev.step (f := fun _ => some (([] : List Int), (2 : Int))) (fun k => ?_) (Ev.now _)
    simp only [nat_Mul.j0, if_true]
  by_cases c0 : 2000 < (Num.trimW l0).length
  · simp only [decide_eq_true c0, if_true, if_pos (show 2000 < (Num.trimW l0).length ∨ 2000 < (Num.trimW l1).length from .inl c0)]
    exact big
  · simp only [decide_eq_false c0, Bool.false_eq_true, if_false]
    refine Ev.bind (ev_large l1 (by omega)) ?_
    by_cases c1 : 2000 < (Num.trimW l1).length
    · simp only [decide_eq_true c1, if_pos (show 2000 < (Num.trimW l0).length ∨ 2000 < (Num.trimW l1).length from .inr c1)]
      exact big
    · rw [if_neg (show ¬ (2000 < (Num.trimW l0).length ∨ 2000 < (Num.trimW l1).length) by omega)]
      simp only [decide_eq_false c1]
      refine Ev.step (f := fun k => (nat_trim.f k l0).bind fun t192 => ((nat_trim.f k l1).bind fun t195 => (if 0 ≤ (wrap64 ((t192.length : Int) + (t195.length : Int))) then (if (wrap64 ((t192.length : Int) + (t195.length : Int)) : Int).toNat ≤ 70368744177664 then (nat_Mul.l0 k t195 (List.replicate (wrap64 ((t192.length : Int) + (t195.length : Int)) : Int).toNat 0) t192 (t192.length : Int) 0) else (none)) else (none)))) (fun k => by simp only [nat_Mul.j0, Bool.false_eq_true, if_false]) ?_
      refine Ev.bind (ev_trim l0 (by omega)) (Ev.bind (ev_trim l1 (by omega)) ?_)
      have hz : Num.valN (List.replicate ((Num.trimW l0).length + (Num.trimW l1).length) 0) = 0 := by
        have := val_zeros ((Num.trimW l0).length + (Num.trimW l1).length) []
        simpa [Num.valN] using this
      have h := mul_l0v (Num.okW_trim o0) (Num.okW_trim o1) (by omega) (by omega) (Num.trimW l0).length 0 (List.replicate ((Num.trimW l0).length + (Num.trimW l1).length) 0) (by omega) (List.length_replicate ..) (okW_zeros _) (by rw [hz]; simp [Num.valN]) (fun k _ => by
        rw [rd_getD, List.getD_eq_getElem?_getD, List.getElem?_replicate]
        split <;> rfl)
      rw [Num.trimW_val, Num.trimW_val] at h
      have ew : wrap64 (((Num.trimW l0).length : Int) + ((Num.trimW l1).length : Int)) = (((Num.trimW l0).length + (Num.trimW l1).length : Nat) : Int) := by rw [i64_id (by omega) (by omega)]; omega
      have c2 : (0 : Int) ≤ (((Num.trimW l0).length + (Num.trimW l1).length : Nat) : Int) := by omega
      have c3 : (Num.trimW l0).length + (Num.trimW l1).length ≤ 70368744177664 := by omega
      refine Ev.congr (fun k => ?_) h
      rw [ew, if_pos c2, Int.toNat_natCast, if_pos c3]
      rfl

end Go.Proofs.YtkihjfpfocnneaaDoor.Pure

namespace Go.Proofs.YtkihjfpfocnneaaDoor.Pure
open Go.RowKit Go.Proofs.YtkihjfpfocnneaaDoor.PNat Go.Proofs.YtkihjfpfocnneaaDoorW.PrintWords Go.Proofs.YtkihjfpfocnneaaDoorW.PrintLast Go.Proofs.YtkihjfpfocnneaaDoorW.PrintMore
set_option linter.unusedVariables false
set_option linter.unusedSimpArgs false
theorem okW_of_wf {l : List Int} (h : ∀ x ∈ l, (Lit.int .u32 x).wf = true) : Num.okW l := by
  intro x hx
  have := h x hx
  have w : 0 ≤ x ∧ x ≤ 4294967295 := by simpa [Lit.wf, IntKind.min, IntKind.max, IntKind.signed, IntKind.bits] using this
  omega

theorem dg9_chars (n : Int) (h0 : 0 ≤ n) : ∀ c ∈ Num.dg9 n, 48 ≤ c.toNat ∧ c.toNat ≤ 57 := by
  intro c hc
  unfold Num.dg9 at hc
  obtain ⟨j, _, rfl⟩ := List.mem_map.1 hc
  have h1 : 0 ≤ n / 10 ^ (8 - j) := Int.ediv_nonneg h0 (Int.pow_nonneg (by decide))
  generalize n / 10 ^ (8 - j) = z at h1 ⊢
  have h2 : (48 + z % 10).toNat < 256 := by omega
  rw [UInt8.toNat_ofNat_of_lt' h2]
  omega
theorem digit_char (z k : Nat) : (UInt8.ofNat (48 + (z : Int) / 10 ^ k % 10).toNat).toNat - 48 = z / 10 ^ k % 10 := by
  have e : (z : Int) / 10 ^ k = ((z / 10 ^ k : Nat) : Int) := by simp
  rw [e]
  generalize z / 10 ^ k = y
  have h2 : (48 + (y : Int) % 10).toNat < 256 := by omega
  rw [UInt8.toNat_ofNat_of_lt' h2]
  omega
theorem decL_digits (z : Nat) : ∀ (m a : Nat), Num.decL a ((List.range m).map fun j => UInt8.ofNat (48 + (z : Int) / 10 ^ (m - 1 - j) % 10).toNat) = a * 10 ^ m + z % 10 ^ m := by
  intro m
  induction m with
  | zero =>
    intro a
    show a = a * 10 ^ 0 + z % 10 ^ 0
    rw [Nat.pow_zero, Nat.mod_one]
    omega
  | succ m ih =>
    intro a
    rw [List.range_succ_eq_map, List.map_cons, List.map_map]
    have e : ((fun j => UInt8.ofNat (48 + (z : Int) / 10 ^ (m + 1 - 1 - j) % 10).toNat) ∘ Nat.succ) = fun j => UInt8.ofNat (48 + (z : Int) / 10 ^ (m - 1 - j) % 10).toNat := by
      funext j
      show UInt8.ofNat (48 + (z : Int) / 10 ^ (m + 1 - 1 - (j + 1)) % 10).toNat = _
      rw [show m + 1 - 1 - (j + 1) = m - 1 - j by omega]
    rw [e]
    show Num.decL (a * 10 + ((UInt8.ofNat (48 + (z : Int) / 10 ^ (m + 1 - 1 - 0) % 10).toNat).toNat - 48)) _ = _
    rw [ih, show m + 1 - 1 - 0 = m by omega, digit_char, Nat.mod_pow_succ, Nat.pow_succ, Nat.add_mul, Nat.mul_assoc, Nat.mul_comm 10 (10 ^ m), Nat.mul_comm (z / 10 ^ m % 10)]
    omega
theorem decL_dg9 (a z : Nat) (hz : z < 1000000000) : Num.decL a (Num.dg9 (z : Int)) = a * 1000000000 + z := by
  have h := decL_digits z 9 a
  rw [Nat.mod_eq_of_lt (show z < 10 ^ 9 from hz)] at h
  exact h
theorem decL_pcs (v : Nat) : Num.decL 0 ((Num.pcs v).reverse.flatMap Num.dg9) = v := by
  induction v using Nat.strongRecOn with
  | _ v ih =>
    rcases Nat.eq_zero_or_pos v with h | h
    · subst h; rw [Num.pcs_zero]; rfl
    · rw [Num.pcs_pos h, List.reverse_cons, List.flatMap_append, Num.decL_append, ih _ (Nat.div_lt_self h (by decide))]
      simp only [List.flatMap_cons, List.flatMap_nil, List.append_nil]
      rw [decL_dg9 _ _ (Nat.mod_lt _ (by decide))]
      omega
theorem decL_drop48 (l : List UInt8) : Num.decL 0 (l.dropWhile (· == 48)) = Num.decL 0 l := by
  induction l with
  | nil => rfl
  | cons c cs ih =>
    rw [List.dropWhile_cons]
    by_cases h : c == 48
    · rw [if_pos h, ih]
      have : c = 48 := by simpa using h
      subst this
      rfl
    · rw [if_neg h]
theorem textN_dec (v : Nat) : Num.decL 0 (Num.textN v) = v := by
  unfold Num.textN
  by_cases h : v = 0
  · rw [if_pos h, h]; rfl
  · rw [if_neg h, decL_drop48, decL_pcs]
theorem textN_digs (v : Nat) : Num.digs (Num.textN v) = true := by
  unfold Num.digs
  rw [List.all_eq_true]
  intro c hc
  have : 48 ≤ c.toNat ∧ c.toNat ≤ 57 := by
    unfold Num.textN at hc
    by_cases h : v = 0
    · rw [if_pos h] at hc
      have : c = 48 := by simpa using hc
      subst this
      decide
    · rw [if_neg h] at hc
      have h1 := (List.dropWhile_sublist _).subset hc
      obtain ⟨z, hz, hc2⟩ := List.mem_flatMap.1 h1
      exact dg9_chars z (Num.pcs_range v z (List.mem_reverse.1 hz)).1 c hc2
  simp [this.1, this.2]
theorem dg9_len (z : Int) : (Num.dg9 z).length = 9 := by unfold Num.dg9; simp
theorem textN_len (v m : Nat) (h : v < 65536 ^ m) : (Num.textN v).length ≤ 9 * m + 1 := by
  unfold Num.textN
  by_cases h0 : v = 0
  · rw [if_pos h0]; simp
  · rw [if_neg h0]
    have h1 := (List.dropWhile_sublist (· == (48 : UInt8)) (l := (Num.pcs v).reverse.flatMap Num.dg9)).length_le
    have h2 : ((Num.pcs v).reverse.flatMap Num.dg9).length = 9 * (Num.pcs v).length := by
      have : ∀ l : List Int, (l.flatMap Num.dg9).length = 9 * l.length := by
        intro l
        induction l with
        | nil => rfl
        | cons x xs ih => rw [List.flatMap_cons, List.length_append, ih, dg9_len, List.length_cons]; omega
      rw [this, List.length_reverse]
    have h3 := Num.pcs_len m v h
    omega
theorem textN_ne (v : Nat) : Num.textN v ≠ [] := by
  intro h
  have h1 := textN_dec v
  rw [h] at h1
  have : v = 0 := h1.symm
  subst this
  exact absurd h (by decide)
theorem parse_text (v : Nat) (h : v < 65536 ^ 130) (hw : (Num.wordsN v).length ≤ 2000) : parseW (Num.textN v) = (Num.wordsN v, 0) := by
  unfold parseW
  have := textN_len v 130 h
  rw [textN_digs, if_neg (by simp), if_neg (textN_ne v), if_neg (by omega), textN_dec]
  unfold fitsW
  rw [Num.trim_wordsN, if_neg (by omega)]
theorem pow_half (n : Nat) : (4294967296 : Nat) ^ n = 65536 ^ (2 * n) := by rw [Nat.pow_mul]
theorem fitV_small {v : Nat} (h : (Num.wordsN v).length ≤ 2000) : fitV v = (Num.wordsN v, 0) := by unfold fitV; rw [if_neg (by omega)]
theorem pow_up {v a b : Nat} (h : v < 4294967296 ^ a) (hab : a ≤ b) : v < 4294967296 ^ b := Nat.lt_of_lt_of_le h (Nat.pow_le_pow_right (by decide) hab)
theorem cmp_self_zero (v : Nat) : Num.cmpN v v = 0 := Num.cmpN_eq rfl
theorem back_j1 (l0 l1 : List Int) (o0 : Num.okW l0) (o1 : Num.okW l1) (h0 : l0.length ≤ 60) (h1 : l1.length ≤ 60) : Ev (fun k => bobbinlaw2_NatBack.j1 k l0 l1 false) true := by
  refine Ev.step (fun k => by simp only [bobbinlaw2_NatBack.j1, Bool.false_eq_true, if_false]; rfl) ?_
  refine Ev.bind (ev_cmp l1 [] o1 Num.okW_nil (by omega) (by simp)) ?_
  have a0 := Num.valN_lt o0
  have a1 := Num.valN_lt o1
  have A0 := pow_up a0 h0
  have A1 := pow_up a1 h1
  by_cases z : Num.valN l1 = 0
  · rw [Num.cmpN_eq (show Num.valN l1 = Num.valN [] from z)]
    simp only [if_true]
    exact Ev.bind ev_awake (Ev.now _)
  · have zp : 0 < Num.valN l1 := by omega
    rw [Num.cmpN_gt (show Num.valN [] < Num.valN l1 from zp)]
    simp only [show ¬ (1 : Int) = 0 by decide, if_false]
    have w0 : (Num.wordsN (Num.valN l0)).length ≤ 60 := Num.wordsN_len A0
    have w1 : (Num.wordsN (Num.valN l1)).length ≤ 60 := Num.wordsN_len A1
    have hd := ev_div l0 l1 o0 o1 (by omega) (by omega)
    unfold divW at hd
    rw [if_neg (by omega), if_neg z] at hd
    refine Ev.bind hd ?_
    obtain ⟨q, hq⟩ : ∃ q, q = Num.valN l0 / Num.valN l1 := ⟨_, rfl⟩
    obtain ⟨r, hr⟩ : ∃ r, r = Num.valN l0 % Num.valN l1 := ⟨_, rfl⟩
    have hqr : q * Num.valN l1 + r = Num.valN l0 := by rw [hq, hr, Nat.mul_comm]; exact Nat.div_add_mod _ _
    have hrl : r < Num.valN l1 := by rw [hr]; exact Nat.mod_lt _ zp
    have hq0 : q ≤ Num.valN l0 := by rw [hq]; exact Nat.div_le_self _ _
    rw [← hq, ← hr]
    have wq : (Num.wordsN q).length ≤ 60 := Num.wordsN_len (Nat.lt_of_le_of_lt hq0 A0)
    have wr : (Num.wordsN r).length ≤ 60 := Num.wordsN_len (Nat.lt_trans hrl A1)
    have wp : (Num.wordsN (q * Num.valN l1)).length ≤ 60 := Num.wordsN_len (by omega)
    have hm := ev_mul (Num.wordsN q) l1 (Num.wordsN_ok q) o1 (by omega) (by omega)
    unfold mulW at hm
    rw [Num.wordsN_val, if_neg (by omega), fitV_small (by omega)] at hm
    refine Ev.bind hm ?_
    refine Ev.bind (ev_add l0 l1 o0 o1 (by omega) (by omega)) ?_
    have ws : (Num.wordsN (Num.valN l0 + Num.valN l1)).length ≤ 61 := Num.wordsN_len (by rw [Nat.pow_succ]; omega)
    have hs := ev_sub (Num.wordsN (Num.valN l0 + Num.valN l1)) l1 (Num.wordsN_ok _) o1 (by omega) (by omega)
    unfold subW at hs
    rw [Num.wordsN_val, if_neg (by omega), Nat.add_sub_cancel] at hs
    refine Ev.bind hs ?_
    simp only [if_true]
    have ha := ev_add (Num.wordsN (q * Num.valN l1)) (Num.wordsN r) (Num.wordsN_ok _) (Num.wordsN_ok _) (by omega) (by omega)
    rw [Num.wordsN_val, Num.wordsN_val, hqr] at ha
    refine Ev.bind ha ?_
    have hc := ev_cmp (Num.wordsN (Num.valN l0)) l0 (Num.wordsN_ok _) o0 (by omega) (by omega)
    rw [Num.wordsN_val, cmp_self_zero] at hc
    refine Ev.bind hc ?_
    simp only [if_true]
    have hc2 := ev_cmp (Num.wordsN r) l1 (Num.wordsN_ok _) o1 (by omega) (by omega)
    rw [Num.wordsN_val, Num.cmpN_lt hrl] at hc2
    refine Ev.bind hc2 ?_
    simp only [show (-1 : Int) < 0 by decide, if_true]
    refine Ev.bind hc ?_
    simp only [if_true]
    exact Ev.bind ev_awake (Ev.now _)
theorem back_j0 (l0 l1 : List Int) (o0 : Num.okW l0) (o1 : Num.okW l1) (h0 : l0.length ≤ 60) (h1 : l1.length ≤ 60) (n : Nat) (hn : n ≤ 1000) : Ev (fun k => bobbinlaw2_NatBack.j0 k l0 l1 (n : Int) false) true := by
  have A0 := pow_up (Num.valN_lt o0) h0
  have w0 : (Num.wordsN (Num.valN l0)).length ≤ 60 := Num.wordsN_len A0
  have ht0 : (Num.trimW l0).length ≤ 2000 := by have := Num.trimW_length_le l0; omega
  refine Ev.step (fun k => by simp only [bobbinlaw2_NatBack.j0, Bool.false_eq_true, if_false]; rfl) ?_
  refine ev_some (text_f o0 (by omega)) ?_
  have hp := ev_parse (⟨(Num.textN (Num.valN l0)).toArray⟩ : ByteArray) (by
    have := textN_len (Num.valN l0) 120 (by rw [pow_half] at A0; exact A0)
    show (Num.textN (Num.valN l0)).toArray.size ≤ 900000
    rw [List.size_toArray]
    omega)
  have hpv : parseW (⟨(Num.textN (Num.valN l0)).toArray⟩ : ByteArray).data.toList = (Num.wordsN (Num.valN l0), 0) :=
    parse_text (Num.valN l0) (Nat.lt_of_lt_of_le (by rw [pow_half] at A0; exact A0) (Nat.pow_le_pow_right (by decide) (by decide))) (by omega)
  rw [hpv] at hp
  refine Ev.bind hp ?_
  have vs : Num.valN l0 * 2 ^ n < 4294967296 ^ 92 := by
    obtain ⟨q, hq⟩ : ∃ q, q = 32 := ⟨_, rfl⟩
    have e1 : (2 : Nat) ^ n ≤ 2 ^ (32 * q) := Nat.pow_le_pow_right (by decide) (by omega)
    have e2 : (4294967296 : Nat) ^ (60 + q) = 4294967296 ^ 60 * 2 ^ (32 * q) := by rw [Nat.pow_add, pow_words q]
    have e3 := Nat.mul_lt_mul_of_lt_of_le A0 e1 (Nat.two_pow_pos _)
    rw [← e2, hq] at e3
    exact e3
  have wS : (Num.wordsN (Num.valN l0 * 2 ^ n)).length ≤ 92 := Num.wordsN_len vs
  have hs := shift_left l0 o0 ht0 (by omega) n (by omega)
  rw [fitV_small (by omega)] at hs
  refine Ev.bind hs ?_
  have tS : (Num.trimW (Num.wordsN (Num.valN l0 * 2 ^ n))).length ≤ 2000 := by rw [Num.trim_wordsN]; omega
  have hu : Ev (fun k => nat_Shift.f k (Num.wordsN (Num.valN l0 * 2 ^ n)) (wrap64 (-(n : Int)))) (Num.wordsN (Num.valN l0), (0 : Int)) := by
    rcases Nat.eq_zero_or_pos n with hz | hz
    · subst hz
      have := shift_left (Num.wordsN (Num.valN l0 * 2 ^ 0)) (Num.wordsN_ok _) tS (by omega) 0 (by omega)
      rw [Num.wordsN_val, Nat.pow_zero, Nat.mul_one, Nat.mul_one, fitV_small (by omega)] at this
      rw [Nat.pow_zero, Nat.mul_one]
      have e : wrap64 (-((0 : Nat) : Int)) = ((0 : Nat) : Int) := by rw [i64_id (by decide) (by decide)]; rfl
      rw [e]
      exact this
    · have := shift_right (Num.wordsN (Num.valN l0 * 2 ^ n)) (Num.wordsN_ok _) tS (by omega) n hz (by omega)
      rw [Num.wordsN_val, Nat.mul_div_cancel _ (Nat.two_pow_pos n)] at this
      rw [i64_id (x := -(n : Int)) (by omega) (by omega)]
      exact this
  refine Ev.bind hu ?_
  simp only [if_true]
  have hc := ev_cmp (Num.wordsN (Num.valN l0)) l0 (Num.wordsN_ok _) o0 (by omega) (by omega)
  rw [Num.wordsN_val, cmp_self_zero] at hc
  refine Ev.bind hc ?_
  simp only [if_true]
  refine Ev.bind hc ?_
  simp only [if_true]
  by_cases z : (l0.length : Int) > 0
  · simp only [if_pos z]
    refine Ev.bind (ev_bits l0 o0 (by omega)) ?_
    by_cases y : ((Num.bitsN (Num.valN l0) : Nat) : Int) > 0
    · simp only [if_pos y]
      have vp : 0 < Num.valN l0 := by
        rcases Nat.eq_zero_or_pos (Num.valN l0) with h | h
        · rw [h, Num.bitsN_zero] at y; omega
        · exact h
      have hb := ev_bits (Num.wordsN (Num.valN l0 * 2 ^ n)) (Num.wordsN_ok _) (by omega)
      have e1 := Num.bitsN_mul vp n 0 (Nat.two_pow_pos n)
      rw [Nat.add_zero] at e1
      rw [Num.wordsN_val, e1] at hb
      refine Ev.bind hb (Ev.bind (ev_bits l0 o0 (by omega)) ?_)
      have hbl : Num.bitsN (Num.valN l0) ≤ 100000000000 := by
        have e2 := Num.bitsN_le vp
        obtain ⟨E, hE⟩ : ∃ E, E = 32 * 60 := ⟨_, rfl⟩
        rw [pow_words, ← hE] at A0
        rcases Nat.lt_or_ge E (Num.bitsN (Num.valN l0)) with h | h
        · have : 2 ^ E ≤ 2 ^ (Num.bitsN (Num.valN l0) - 1) := Nat.pow_le_pow_right (by decide) (by omega)
          exact absurd (Nat.lt_of_lt_of_le A0 (Nat.le_trans this e2)) (Nat.lt_irrefl _)
        · omega
      have e4 : ((((Num.bitsN (Num.valN l0) + n : Nat) : Int)) != (wrap64 (((Num.bitsN (Num.valN l0) : Nat) : Int) + (n : Int)))) = false := by
        rw [i64_id (by omega) (by omega), bne_eq_false_iff_eq]
        omega
      rw [e4]
      exact back_j1 l0 l1 o0 o1 h0 h1
    · simp only [if_neg y]
      exact back_j1 l0 l1 o0 o1 h0 h1
  · simp only [if_neg z]
    exact back_j1 l0 l1 o0 o1 h0 h1
theorem natBack_pure : bobbinlaw2_NatBack.Pure := by
  intro l0 l1 a2 _ _ w0 _ _ w1 w2
  have o0 := okW_of_wf w0
  have o1 := okW_of_wf w1
  have k2 : -9223372036854775808 ≤ a2 ∧ a2 ≤ 9223372036854775807 := by simpa [Lit.wf, IntKind.min, IntKind.max, IntKind.signed, IntKind.bits] using w2
  have big : Ev (fun k => bobbinlaw2_NatBack.j0 k l0 l1 a2 true) true := by
    refine Ev.step (f := fun k => (bobbinlaw2_awake.f k).bind fun t => some t) (fun k => ?_) (Ev.bind ev_awake (Ev.now _))
    simp only [bobbinlaw2_NatBack.j0, if_true]
  have key : Ev (fun k => bobbinlaw2_NatBack.f k l0 l1 a2) true := by
    unfold bobbinlaw2_NatBack.f
    by_cases c0 : (l0.length : Int) > 60
    · simp only [if_pos c0]
      exact big
    · simp only [if_neg c0]
      by_cases c1 : (l1.length : Int) > 60
      · simp only [if_pos c1]
        exact big
      · simp only [if_neg c1]
        by_cases c2 : a2 < 0
        · simp only [if_pos c2]
          exact big
        · simp only [if_neg c2]
          by_cases c3 : a2 > 1000
          · simp only [decide_eq_true c3]
            exact big
          · simp only [decide_eq_false c3]
            obtain ⟨n, rfl⟩ := Int.eq_ofNat_of_zero_le (show 0 ≤ a2 by omega)
            exact back_j0 l0 l1 o0 o1 (by omega) (by omega) n (by omega)
  obtain ⟨K, h⟩ := key
  exact ⟨K, h K (Nat.le_refl _)⟩

end Go.Proofs.YtkihjfpfocnneaaDoor.Pure

namespace Go.Proofs.YtkihjfpfocnneaaDoor.natBack
open Go.ChangeShapes Go.WideShapes Go.ChangeAt Go.RowKit
open Go.ChangeMaps (open_string shut_string)
set_option linter.unusedVariables false
theorem own : ownKnob Tryd.prog.godebug = none := by kernel_rfl
theorem laidOut : laidOutB Tryd.prog = true := by kernel_rfl
def IsRow (k : IntKind) (w : World) (a : Option Addr) (len cap : Nat) (zs : List Int) : Prop :=
  (a = none ∧ len = 0 ∧ cap = 0 ∧ zs = []) ∨
  ∃ x, a = some x ∧ len ≤ cap ∧ cap ≤ maxLen ∧ zs.length = cap ∧ (∀ i, i < zs.length → w.cell? (x.add i) = some (.int k (zs.getD i 0))) ∧ ∀ n ∈ zs, (Lit.int k n).wf = true
set_option maxRecDepth 100000 in
theorem lifted (os : Os) (started : os.Started) (H : Type) (enc : TypeId × Value → H) :
    ReturnsInHanded {} Tryd.checked os 8 .any (fun w args => (Rows.natBackSpec.pre enc Tryd.prog Tryd.f8 Rows.natBackRow.domain false w args ∧ laidMetH Tryd.prog Rows.natBackRow.laid w) ∧ sizedMet enc Tryd.prog Tryd.f8 (OpenSpec.ofChange Rows.natBackSpec) false w args) (Rows.natBackSpec.post enc Tryd.prog Tryd.f8 false true false false) := by
  refine returnsInHanded_of_change_and (C := Tryd.checked) (X := fun w _ => laidMetH Tryd.prog Rows.natBackRow.laid w) (fun _ _ _ hh h => h.of_heap hh) own started (by kernel_rfl) Tryd.func8
    (ChangeSpec.witness_shaped (enc := enc) (C := Tryd.checked) (os := os) (X := fun w _ => laidMetH Tryd.prog Rows.natBackRow.laid w) false (World.laidAll Tryd.prog os Rows.natBackRow.laid) #[.slice none 0 0, .slice none 0 0, .int .i64 0] 8 (World.laidAll_os _ _ _)
      (World.shaped_of_ZipB (by kernel_rfl) (by kernel_rfl)) (by kernel_rfl) (by kernel_rfl) (by kernel_rfl)
      (by rw [MakeChecks.laidMetH_plain _ _ _ (by kernel_rfl)]; exact laidMet_laidAll _ (by kernel_rfl) (by kernel_rfl))) ?_
  intro W base args ds gs before hval0 hW hcnd hsz0 _ _
  have hsz : (DataW.weightsEach Tryd.prog (Tryd.f8.params.toList ++ Rows.natBackSpec.plain.varTypes Tryd.prog) (ds ++ gs)).all (· ≤ reachBytes) = true := hsz0
  have hval : ∀ (j : Nat) t v, Tryd.f8.params[j]? = some t → args[j]? = some v → Value.okWide Tryd.prog W .any base t v := hval0
  have hW' := hW
  obtain ⟨p, q, hA0, hV, rfl, hfz, hnd⟩ := hW
  have hA : DataW.TrodAll enc Tryd.prog W 0 (fun _ => true) true Tryd.f8.params.toList args.toList ds p := hA0
  rw [Tryd.params8] at hA hval hsz
  obtain ⟨v0, vs0, d0, ds0, p0, q0, hargs, rfl, rfl, h0, r0⟩ := trodAll_cons hA
  obtain ⟨v1, vs1, d1, ds1, p1, q1, rfl, rfl, rfl, h1, r1⟩ := trodAll_cons r0
  obtain ⟨v2, vs2, d2, ds2, p2, q2, rfl, rfl, rfl, h2, r2⟩ := trodAll_cons r1
  obtain ⟨rfl, rfl, rfl⟩ := trodAll_nil r2
  obtain rfl : args = #[v0, v1, v2] := by cases args; simp_all
  obtain ⟨rfl, rfl⟩ := trodVars_none hV
  obtain ⟨a0, len0, cap0, rfl⟩ := okWide_slice Tryd.underlying23 (hval 0 23 v0 rfl rfl)
  have k0 := h0
  have lt0 : ∀ x ∈ p0, x.block < W.heap.size := by obtain ⟨m, hm⟩ := k0; exact DataW.trod_lt m _ _ _ hm
  obtain ⟨z0, w0⟩ : ∃ zs, IsRow .u32 W a0 len0 cap0 zs := by
    obtain ⟨fuel, hf⟩ := h0
    rcases open_ints Tryd.underlying23 Tryd.underlying38 (by kernel_rfl) hf with ⟨hcs, _⟩ | ⟨x, l, c, zs, hcs, _, hl, hm, hz, _, hcell, hwz⟩
    · simp [Value.cells] at hcs
      obtain ⟨rfl, rfl, rfl⟩ := hcs
      exact ⟨[], .inl ⟨rfl, rfl, rfl, rfl⟩⟩
    · simp [Value.cells] at hcs
      obtain ⟨rfl, rfl, rfl⟩ := hcs
      exact ⟨zs, .inr ⟨_, rfl, hl, hm, by simpa using hz, hcell, hwz⟩⟩
  have y0 : len0 * 4 ≤ 140737488351232 := Go.Proofs.YtkihjfpfocnneaaDoorW.PrintWords.sized_ints hsz (j := 0) (t := 23) rfl rfl Tryd.underlying23 Tryd.underlying38 (by kernel_rfl) (by kernel_rfl) h0
  obtain ⟨a1, len1, cap1, rfl⟩ := okWide_slice Tryd.underlying23 (hval 1 23 v1 rfl rfl)
  have k1 := h1
  have lt1 : ∀ x ∈ p1, x.block < W.heap.size := by obtain ⟨m, hm⟩ := k1; exact DataW.trod_lt m _ _ _ hm
  obtain ⟨z1, w1⟩ : ∃ zs, IsRow .u32 W a1 len1 cap1 zs := by
    obtain ⟨fuel, hf⟩ := h1
    rcases open_ints Tryd.underlying23 Tryd.underlying38 (by kernel_rfl) hf with ⟨hcs, _⟩ | ⟨x, l, c, zs, hcs, _, hl, hm, hz, _, hcell, hwz⟩
    · simp [Value.cells] at hcs
      obtain ⟨rfl, rfl, rfl⟩ := hcs
      exact ⟨[], .inl ⟨rfl, rfl, rfl, rfl⟩⟩
    · simp [Value.cells] at hcs
      obtain ⟨rfl, rfl, rfl⟩ := hcs
      exact ⟨zs, .inr ⟨_, rfl, hl, hm, by simpa using hz, hcell, hwz⟩⟩
  have y1 : len1 * 4 ≤ 140737488351232 := Go.Proofs.YtkihjfpfocnneaaDoorW.PrintWords.sized_ints hsz (j := 1) (t := 23) rfl rfl Tryd.underlying23 Tryd.underlying38 (by kernel_rfl) (by kernel_rfl) h1
  obtain ⟨a2, rfl, rfl, rfl, w2⟩ := open_int Tryd.underlying3 (hval 2 3 v2 rfl rfl) h2
  clear hA0 hval0 hsz0 hsz
  refine (PNat.bobbinlaw2_NatBack.walk Pure.natBack_pure a0 len0 cap0 z0 a1 len1 cap1 z1 a2 W w0 y0 w1 y1 w2).mono fun e W' ⟨he, bel⟩ => ?_
  subst he
  exact ⟨_, rfl, _, _, _, [], _, [], hW', trodAll_mk1 (shut_bool Tryd.underlying4 _), (trodAll_cons_mk (Below.trod laidOut (by kernel_rfl) (of_decide_eq_true (by kernel_rfl)) k0 bel lt0) (trodAll_cons_mk (Below.trod laidOut (by kernel_rfl) (of_decide_eq_true (by kernel_rfl)) k1 bel lt1) (trodAll_cons_mk (shut_int Tryd.underlying3 w2) trodAll_mk0))), rfl, bel.frame _, fun h => by cases h⟩
theorem over : Rows.natBackRow.holds Tryd.pinned (OpenSpec.ofChange Rows.natBackSpec) :=
  OpenClaim.holds_of_wide 8 Tryd.f8 rfl rfl rfl rfl rfl rfl rfl ⟨rfl, rfl, rfl, rfl, rfl⟩ rfl rfl rfl rfl rfl (by kernel_rfl) Tryd.func8 (by kernel_rfl)
    (of_decide_eq_true (by kernel_rfl)) (by unfold Func.isWrapper; first | (rw [if_pos (by decide +kernel)]; kernel_rfl) | (rw [if_neg (by decide +kernel)]; exact ⟨rfl, rfl⟩))
    (fun os started H enc _ => lifted os started H enc)
theorem proved : Rows.NatBackSaid := over
#print axioms proved
end Go.Proofs.YtkihjfpfocnneaaDoor.natBack
namespace Go.Proofs.YtkihjfpfocnneaaDoor
/-- The tied card of the row. -/
theorem natBack_card : Rows.NatBackCardSaid :=
  Claim7.holds_tied_plain_at .later [] [.data, .pinned] true (true, "005fd3a0aea88288d9db4e560ed0fc24a76800b7dd77e6b7e28f807f693223d3") false natBack.proved (fun _ h => by cases h) (by kernel_rfl) (fun _ h => by cases h) natBack_row_tie rfl ⟨rfl, rfl⟩ (by kernel_rfl) rfl
    (fun f fn hf hfn => by
      obtain rfl : f = 8 := Option.some.inj ((show Tryd.prog.funcNamed "bobbin/bobbinlaw2.NatBack" = some 8 by kernel_rfl).symm.trans hf) |>.symm
      obtain rfl : fn = Tryd.f8 := (Option.some.inj (Tryd.func8.symm.trans hfn)).symm
      exact ⟨by kernel_rfl, fun j t ht => by
        rw [Tryd.params8] at ht
        have hm : t ∈ [23, 23, 3] := by simpa using Array.mem_of_getElem? ht
        have hall : ([23, 23, 3].all fun u => !Tryd.prog.wantsStandIn u) = true := by kernel_rfl
        exact (show Tryd.prog.wantsStandIn t = false by simpa using List.all_eq_true.1 hall t hm)⟩)
    (by kernel_rfl)
#print axioms natBack_card
end Go.Proofs.YtkihjfpfocnneaaDoor
