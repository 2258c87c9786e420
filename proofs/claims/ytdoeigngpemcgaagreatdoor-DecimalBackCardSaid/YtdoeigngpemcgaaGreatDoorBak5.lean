/- DecimalBack answers true at every input that its row admits. This is part 5 of 7: what the session's printing program wrote for the functions reached, and the session's own lemmas. -/
import Derived.Test.YtdoeigngpemcgaaGreatDoorBak2
import Derived.Test.YtdoeigngpemcgaaGreatDoorBak4
namespace Go.Proofs.YtdoeigngpemcgaaGreatDoor.Pure
open Go.RowKit Go.Proofs.YtdoeigngpemcgaaGreatDoor.PNat Go.Proofs.YtdoeigngpemcgaaGreatDoorW.PrintWords Go.Proofs.YtdoeigngpemcgaaGreatDoorW.PrintLast Go.Proofs.YtdoeigngpemcgaaGreatDoorW.PrintMore
set_option linter.unusedVariables false
set_option linter.unusedSimpArgs false
theorem shl_val {x s : Nat} (hx : x < 4294967296) (hs : s ≤ 32) : shl .u64 (IntKind.u64.wrap (x : Int)) (s : Int) = ((x * 2 ^ s : Nat) : Int) := by
 have h1 : x * 2 ^ s ≤ 4294967295 * 2 ^ 32 := Nat.mul_le_mul (by omega) (Nat.pow_le_pow_right (by decide) hs)
 unfold shl
 rw [u64_id (x := (x : Int)) (by omega) (by omega), Int.toNat_natCast, Nat.min_eq_left (by show s ≤ 64; omega)]
 have e : (x : Int) * 2 ^ s = ((x * 2 ^ s : Nat) : Int) := by simp
 rw [e, u64_id (by omega) (by omega)]
theorem shr_val {x s : Nat} (hs : s ≤ 32) : shr .u64 (x : Int) (s : Int) = ((x / 2 ^ s : Nat) : Int) := by
 unfold shr
 rw [Int.toNat_natCast, Nat.min_eq_left (by show s ≤ 64; omega)]
 simp
theorem or_words {a b : Nat} (ha : a < 4294967296) (hb : b < 4294967296) : bits .or .u64 (IntKind.u64.wrap (IntKind.u64.wrap (a : Int) * 4294967296)) (IntKind.u64.wrap (b : Int)) = ((b + 4294967296 * a : Nat) : Int) := by
 rw [u64_id (x := (a : Int)) (by omega) (by omega), u64_id (x := (a : Int) * 4294967296) (by omega) (by omega), u64_id (x := (b : Int)) (by omega) (by omega), u64_or _ _ (by omega) (by omega) (by omega) (by omega), nat_join 32 _ _ (by omega) (by omega)]
 omega
theorem or_words' {a b : Nat} (ha : a < 4294967296) (hb : b < 4294967296) : bits .or .u64 (IntKind.u64.wrap (b : Int)) (IntKind.u64.wrap (IntKind.u64.wrap (a : Int) * 4294967296)) = ((b + 4294967296 * a : Nat) : Int) := by
 rw [u64_id (x := (a : Int)) (by omega) (by omega), u64_id (x := (a : Int) * 4294967296) (by omega) (by omega), u64_id (x := (b : Int)) (by omega) (by omega), u64_or _ _ (by omega) (by omega) (by omega) (by omega), Nat.or_comm, nat_join 32 _ _ (by omega) (by omega)]
 omega
theorem or_low {p w s : Nat} (hp : p < 2 ^ s) (hs : s ≤ 32) (hw : w % 2 ^ s = 0) : bits .or .u32 (p : Int) ((w : Int) % 4294967296) = ((p + w % 4294967296 : Nat) : Int) := by
 have h2 : (2 : Nat) ^ s ≤ 2 ^ 32 := Nat.pow_le_pow_right (by decide) hs
 have e : (w : Int) % 4294967296 = ((w % 4294967296 : Nat) : Int) := by omega
 have hm : w % 4294967296 % 2 ^ s = 0 := by
  have : (4294967296 : Nat) = 2 ^ s * 2 ^ (32 - s) := by rw [← Nat.pow_add, show s + (32 - s) = 32 by omega]
  rw [this, Nat.mod_mul_right_mod]
  exact hw
 rw [e, u32_or _ _ (by omega) (by omega) (by omega) (by omega), Int.toNat_natCast, Int.toNat_natCast, Nat.or_comm, nat_join s _ _ hm hp, Nat.add_comm]
theorem mv_step {x s p : Nat} (hx : x < 4294967296) (hs : s < 32) (hp : p < 2 ^ s) :
  ∃ lo hi : Nat, x * 2 ^ s = lo + 4294967296 * hi ∧ lo < 4294967296 ∧ hi < 2 ^ s ∧ p + lo < 4294967296 ∧ bits .or .u32 (p : Int) (shl .u64 (IntKind.u64.wrap (x : Int)) (s : Int) % 4294967296) = ((p + lo : Nat) : Int) ∧ shl .u64 (IntKind.u64.wrap (x : Int)) (s : Int) / 4294967296 % 4294967296 = (hi : Int) := by
 have hk : (4294967296 : Nat) = 2 ^ s * 2 ^ (32 - s) := by rw [← Nat.pow_add, show s + (32 - s) = 32 by omega]
 have hm : x * 2 ^ s % 4294967296 % 2 ^ s = 0 := by rw [hk, Nat.mod_mul_right_mod, Nat.mul_mod_left]
 have hor := or_low (w := x * 2 ^ s) hp (by omega) (Nat.mul_mod_left _ _)
 rw [shl_val hx (by omega)]
 have hxs : x * 2 ^ s < 4294967296 * 2 ^ s := Nat.mul_lt_mul_of_pos_right hx (Nat.two_pow_pos s)
 have hhi : x * 2 ^ s / 4294967296 < 2 ^ s := by rw [Nat.div_lt_iff_lt_mul (by decide), Nat.mul_comm (2 ^ s)]; exact hxs
 have hS : 2 ^ s ≤ 2 ^ 31 := Nat.pow_le_pow_right (by decide) (by omega)
 have hlo : p + x * 2 ^ s % 4294967296 < 4294967296 := by
  have hq := Nat.div_add_mod (x * 2 ^ s % 4294967296) (2 ^ s)
  rw [hm, Nat.add_zero] at hq
  have hlt : x * 2 ^ s % 4294967296 < 2 ^ s * 2 ^ (32 - s) := by rw [← hk]; exact Nat.mod_lt _ (by decide)
  rw [← hq] at hlt
  have h3 : x * 2 ^ s % 4294967296 / 2 ^ s + 1 ≤ 2 ^ (32 - s) := Nat.lt_of_mul_lt_mul_left hlt
  have h4 : 2 ^ s * (x * 2 ^ s % 4294967296 / 2 ^ s + 1) ≤ 2 ^ s * 2 ^ (32 - s) := Nat.mul_le_mul_left _ h3
  rw [Nat.mul_add, Nat.mul_one, hq, ← hk] at h4
  generalize x * 2 ^ s % 4294967296 = z at h4 ⊢
  generalize 2 ^ s = S at *
  omega
 refine ⟨x * 2 ^ s % 4294967296, x * 2 ^ s / 4294967296, (Nat.mod_add_div _ _).symm, Nat.mod_lt _ (by decide), hhi, hlo, hor, ?_⟩
 generalize 2 ^ s = S at *
 generalize x * S = z at *
 clear hm hk hor
 omega
theorem moved_l0 {t : List Int} (ok : Num.okW t) (ht : t.length ≤ 1000000) {s : Nat} (hs : s < 32) (d : Nat) : ∀ (i : Nat) (dn : List Int) (p : Nat), i + d = t.length → dn.length = i → Num.okW dn → p < 2 ^ s →
  Num.valN dn + 4294967296 ^ i * p = Num.valN (t.take i) * 2 ^ s →
  ∃ R : List Int, Num.okW R ∧ R.length = t.length + 1 ∧ Num.valN R = Num.valN t * 2 ^ s ∧ Ev (fun k => nat_moved.l0 k (s : Int) (dn ++ (p : Int) :: List.replicate d 0) t (t.length : Int) (i : Int)) R := by
 have h2 : (2 : Nat) ^ s ≤ 2147483648 := Nat.le_trans (Nat.pow_le_pow_right (by decide) (show s ≤ 31 by omega)) (by decide)
 induction d with
 | zero =>
  intro i dn p hi hd od hp hv
  have hp2 : p < 4294967296 := Nat.lt_of_lt_of_le hp (Nat.le_trans h2 (by decide))
  refine ⟨dn ++ [(p : Int)], Num.okW_snoc od (Int.natCast_nonneg _) (by clear hv hp h2; omega), by rw [List.length_append, hd]; simp; omega, ?_, ?_⟩
  ·rw [Num.val_snoc, hd, Int.toNat_natCast, hv, List.take_of_length_le (by omega)]
  ·refine Ev.step (f := fun _ => some (dn ++ [(p : Int)])) (fun k => ?_) (Ev.now _)
   simp only [nat_moved.l0]
   rw [if_neg (by omega), List.replicate_zero]
 | succ d ih =>
  intro i dn p hi hd od hp hv
  have ox := rd_ok ok i
  obtain ⟨x, hx⟩ := Int.eq_ofNat_of_zero_le ox.1
  have hx1 : x < 4294967296 := by clear hv hp h2; omega
  obtain ⟨lo, hh, e, hlo, hhi, hpl, hor, hshr⟩ := mv_step hx1 hs hp
  have Hor := Aside0.mk hor
  have Hshr := Aside0.mk hshr
  clear hor hshr
  have e1 : rd (dn ++ (p : Int) :: List.replicate (d + 1) 0) (i : Int) = (p : Int) := by
   rw [rd_getD, List.getD_eq_getElem?_getD, List.getElem?_append_right (by clear hv hp h2 e hhi; omega), hd, Nat.sub_self]
   rfl
  have e2 : ∀ a b : Int, ((dn ++ (p : Int) :: List.replicate (d + 1) 0).set i a).set (i + 1) b = (dn ++ [a]) ++ b :: List.replicate d 0 := by
   intro a b
   rw [← hd, List.set_append_right _ _ (Nat.le_refl _), Nat.sub_self, List.set_cons_zero, List.set_append_right _ _ (Nat.le_succ _), show dn.length + 1 - dn.length = 0 + 1 by omega, List.set_cons_succ, List.replicate_succ, List.set_cons_zero]
   simp
  have hi1 : i + 1 + d = t.length := by clear hv hp h2 e hhi; omega
  have hil : i < t.length := by clear hv hp h2 e hhi; omega
  obtain ⟨R, o, l, v, hev⟩ := ih (i + 1) (dn ++ [((p + lo : Nat) : Int)]) hh hi1 (by rw [List.length_append, hd]; rfl) (Num.okW_snoc od (Int.natCast_nonneg _) (by clear hv hp h2 e hhi; omega)) hhi (by
   rw [Num.val_snoc, hd, Int.toNat_natCast, Num.val_take_next, ← rd_toNat, hx, Int.toNat_natCast, Nat.pow_succ, Nat.add_mul, Nat.mul_assoc (4294967296 ^ i) x, e, ← hv]
   simp only [Nat.mul_add, ← Nat.mul_assoc]
   clear hv hp h2 e hhi hi hi1 hil
   omega)
  refine ⟨R, o, l, v, Ev.step (fun k => ?_) hev⟩
  clear hv hp h2 e hhi v
  have Ew := Aside0.mk (show wrap64 ((i : Int) + 1) = ((i + 1 : Nat) : Int) by rw [i64_id (by omega) (by omega)]; rfl)
  have hl : (dn ++ (p : Int) :: List.replicate (d + 1) 0).length = t.length + 1 := by rw [List.length_append, hd]; simp; omega
  simp only [nat_moved.l0]
  rw [if_pos (by omega), if_pos (by omega), if_pos (by omega), if_pos (by omega), Ew.out, if_pos (by omega), if_pos (by omega), if_pos (by omega), hx, Hshr.out, e1, Hor.out, Int.toNat_natCast, Int.toNat_natCast, e2]
/-- moved: a value shifted left by less than a word, with one word more -/
theorem ev_moved (t : List Int) (ok : Num.okW t) (ht : t.length ≤ 1000000) (s : Nat) (hs : s < 32) :
  ∃ R : List Int, Num.okW R ∧ R.length = t.length + 1 ∧ Num.valN R = Num.valN t * 2 ^ s ∧ Ev (fun k => nat_moved.f k t (s : Int)) R := by
 obtain ⟨R, o, l, v, hev⟩ := moved_l0 ok ht hs t.length 0 [] 0 (by omega) rfl Num.okW_nil (Nat.two_pow_pos s) (by simp [Num.valN])
 refine ⟨R, o, l, v, ?_⟩
 unfold nat_moved.f
 refine Ev.congr (fun k => by rw [i64_id (show -9223372036854775808 ≤ (t.length : Int) + 1 by omega) (by omega), if_pos (by omega), if_pos (by omega), show ((t.length : Int) + 1).toNat = t.length + 1 by omega]) ?_
 exact hev
/-- words shifted right -/
def rsW (s : Nat) : List Int → List Int
 | [] => []
 | x :: xs => (((x.toNat + 4294967296 * (xs.headD 0).toNat) / 2 ^ s % 4294967296 : Nat) : Int) :: rsW s xs
theorem rsW_len (s : Nat) (l : List Int) : (rsW s l).length = l.length := by
 induction l with
 | nil => rfl
 | cons x xs ih => simp [rsW, ih]
theorem rsW_ok (s : Nat) (l : List Int) : Num.okW (rsW s l) := by
 induction l with
 | nil => exact Num.okW_nil
 | cons x xs ih => exact Num.okW_cons.2 ⟨by omega, ih⟩
theorem head_mod (l : List Int) (ok : Num.okW l) : (l.headD 0).toNat = Num.valN l % 4294967296 := by
 cases l with
 | nil => rfl
 | cons x xs =>
  have h := (Num.okW_cons.1 ok).1
  simp only [List.headD_cons, Num.valN]
  omega
theorem rsW_val {s : Nat} (hs : s ≤ 32) (l : List Int) (ok : Num.okW l) : Num.valN (rsW s l) = Num.valN l / 2 ^ s := by
 induction l with
 | nil => simp [rsW, Num.valN]
 | cons x xs ih =>
  have hx := (Num.okW_cons.1 ok).1
  have oxs := (Num.okW_cons.1 ok).2
  simp only [rsW, Num.valN, Int.toNat_natCast, ih oxs, head_mod xs oxs]
  generalize Num.valN xs = v
  obtain ⟨X, rfl⟩ := Int.eq_ofNat_of_zero_le hx.1
  simp only [Int.toNat_natCast]
  have hk : (4294967296 : Nat) = 2 ^ s * 2 ^ (32 - s) := by rw [← Nat.pow_add, show s + (32 - s) = 32 by omega]
  have hp : 0 < 2 ^ s := Nat.two_pow_pos s
  -- v = z * 2^s + t
  have hv := Nat.div_add_mod v (2 ^ s)
  have ht := Nat.mod_lt v hp
  have hv2 : v % 4294967296 % 2 ^ s = v % 2 ^ s := by rw [hk, Nat.mod_mul_right_mod]
  have hw := Nat.div_add_mod (v % 4294967296) (2 ^ s)
  rw [hv2] at hw
  generalize v % 2 ^ s = t at *
  generalize v / 2 ^ s = z at *
  generalize v % 4294967296 / 2 ^ s = z' at *
  have a1 : (X + 4294967296 * v) / 2 ^ s = (X + 4294967296 * t) / 2 ^ s + 4294967296 * z := by
   have : X + 4294967296 * v = (X + 4294967296 * t) + 2 ^ s * (4294967296 * z) := by
    rw [← hv, Nat.mul_add, Nat.mul_left_comm]; omega
   rw [this, Nat.add_mul_div_left _ _ hp]
  have a2 : (X + 4294967296 * (v % 4294967296)) / 2 ^ s = (X + 4294967296 * t) / 2 ^ s + 4294967296 * z' := by
   have : X + 4294967296 * (v % 4294967296) = (X + 4294967296 * t) + 2 ^ s * (4294967296 * z') := by
    rw [← hw, Nat.mul_add, Nat.mul_left_comm]; omega
   rw [this, Nat.add_mul_div_left _ _ hp]
  have a3 : (X + 4294967296 * t) / 2 ^ s < 4294967296 := by
   rw [Nat.div_lt_iff_lt_mul hp]
   have : 4294967296 * (t + 1) ≤ 4294967296 * 2 ^ s := Nat.mul_le_mul_left _ ht
   omega
  rw [a1, a2, Nat.add_mul_mod_self_left, Nat.mod_eq_of_lt a3]
theorem rsW_get (s : Nat) (l : List Int) : ∀ i : Nat, i < l.length → (rsW s l).getD i 0 = (((rd l (i : Int)).toNat + 4294967296 * (rd l ((i + 1 : Nat) : Int)).toNat) / 2 ^ s % 4294967296 : Nat) := by
 induction l with
 | nil => intro i h; simp at h
 | cons x xs ih =>
  intro i h
  cases i with
  | zero =>
   rw [rd_getD, rd_getD]
   simp only [rsW, List.getD_cons_zero, List.getD_cons_succ]
   cases xs <;> rfl
  | succ i =>
   have := ih i (by simpa using h)
   rw [rd_getD, rd_getD] at this ⊢
   simp only [rsW, List.getD_cons_succ]
   exact this
theorem take_next {l : List Int} {i : Nat} (h : i < l.length) : l.take (i + 1) = l.take i ++ [l.getD i 0] := by
 rw [List.take_succ_eq_append_getElem h, List.getD_eq_getElem?_getD, List.getElem?_eq_getElem h]
 rfl
theorem val_take_of_lt {l : List Int} {n : Nat} (h : Num.valN l < 4294967296 ^ n) : Num.valN (l.take n) = Num.valN l := by
 rcases Nat.lt_or_ge n l.length with c | c
 ·have e : Num.valN l = Num.valN (l.take n) + 4294967296 ^ n * Num.valN (l.drop n) := by
   have h1 := Num.valN_append (l.take n) (l.drop n)
   rw [List.take_append_drop, List.length_take, Nat.min_eq_left (by omega)] at h1
   exact h1
  rcases Nat.eq_zero_or_pos (Num.valN (l.drop n)) with h0 | h0
  ·rw [h0] at e; omega
  ·have : 4294967296 ^ n * 1 ≤ 4294967296 ^ n * Num.valN (l.drop n) := Nat.mul_le_mul_left _ h0
   omega
 ·rw [List.take_of_length_le c]
theorem shiftr_l0 {y : List Int} (ok : Num.okW y) (hy : y.length ≤ 1000000) {s : Nat} (hs : s ≤ 32) (d : Nat) : ∀ i : Nat, i + d = y.length →
  Ev (fun k => nat_Shift.l0 k y (s : Int) ((rsW s y).take i ++ List.replicate d 0) y (y.length : Int) (i : Int)) (Num.wordsN (Num.valN y / 2 ^ s), (0 : Int)) := by
 induction d with
 | zero =>
  intro i hi
  refine Ev.step (f := fun k => (nat_trim.f k (rsW s y)).bind fun t => some (t, (0 : Int))) (fun k => ?_) ?_
  ·simp only [nat_Shift.l0]
   rw [if_neg (by omega), List.replicate_zero, List.append_nil, List.take_of_length_le (by rw [rsW_len]; omega)]
  ·refine Ev.bind (ev_trim _ (by rw [rsW_len]; omega)) ?_
   rw [Num.trim_words (rsW_ok s y), rsW_val hs y ok]
   exact Ev.now _
 | succ d ih =>
  intro i hi
  have ox := rd_ok ok i
  have ox1 := rd_ok ok (i + 1)
  obtain ⟨a, ha⟩ := Int.eq_ofNat_of_zero_le ox.1
  obtain ⟨b, hb⟩ := Int.eq_ofNat_of_zero_le ox1.1
  have Ew := Aside0.mk (show wrap64 ((i : Int) + 1) = ((i + 1 : Nat) : Int) by rw [i64_id (by omega) (by omega)]; rfl)
  have hlt : ((rsW s y).take i).length = i := by rw [List.length_take, rsW_len]; omega
  have hg := rsW_get s y i (by omega)
  rw [ha, hb, Int.toNat_natCast, Int.toNat_natCast] at hg
  have hset : ∀ v : Int, v = (rsW s y).getD i 0 → ((rsW s y).take i ++ List.replicate (d + 1) 0).set i v = (rsW s y).take (i + 1) ++ List.replicate d 0 := by
   intro v hv
   have := set_next ((rsW s y).take i) d v
   rw [hlt] at this
   rw [this, take_next (by rw [rsW_len]; omega), hv]
  have hl : ((rsW s y).take i ++ List.replicate (d + 1) 0).length = y.length := by rw [List.length_append, hlt, List.length_replicate]; omega
  refine Ev.step (fun k => ?_) (ih (i + 1) (by omega))
  simp only [nat_Shift.l0]
  rw [if_pos (by omega), if_pos (by omega), if_pos (by omega), Ew.out]
  by_cases c : ((i + 1 : Nat) : Int) < (y.length : Int)
  ·rw [if_pos c, if_pos (by omega), if_pos (by omega), if_pos (by omega), ha, hb, or_words' (by omega) (by omega), shr_val hs, Int.toNat_natCast, hset _ (by rw [hg]; generalize (a + 4294967296 * b) / 2 ^ s = z; omega)]
  ·have h0 : b = 0 := by
    have := rd_beyond (l := y) (i := i + 1) (by omega)
    omega
   rw [if_neg c, if_pos (by omega), if_pos (by omega), ha, u64_id (x := (a : Int)) (by omega) (by omega), shr_val hs, Int.toNat_natCast, hset _ (by rw [hg, h0, Nat.mul_zero, Nat.add_zero]; generalize a / 2 ^ s = z; omega)]
theorem drop_words_val {l : List Int} (ok : Num.okW l) (q : Nat) : Num.valN (l.drop q) = Num.valN l / 4294967296 ^ q := by
 rcases Nat.lt_or_ge l.length q with c | c
 ·rw [List.drop_of_length_le (by omega), Nat.div_eq_of_lt]
  ·rfl
  ·exact Nat.lt_of_lt_of_le (Num.valN_lt ok) (Nat.pow_le_pow_right (by decide) (by omega))
 ·have h1 := Num.valN_append (l.take q) (l.drop q)
  rw [List.take_append_drop, List.length_take, Nat.min_eq_left c] at h1
  have h2 := Num.valN_lt (Num.okW_take ok q)
  rw [List.length_take, Nat.min_eq_left c] at h2
  rw [h1, Nat.add_mul_div_left _ _ (Nat.pow_pos (by decide)), Nat.div_eq_of_lt h2, Nat.zero_add]
theorem pow_words (q : Nat) : (4294967296 : Nat) ^ q = 2 ^ (32 * q) := by
 rw [Nat.pow_mul]
theorem shift_right (l : List Int) (ok : Num.okW l) (hl : (Num.trimW l).length ≤ 2000) (hl' : l.length ≤ 1000000000) (m : Nat) (hm : 0 < m) (hm2 : m ≤ 9223372036854775807) : Ev (fun k => nat_Shift.f k l (-(m : Int))) (Num.wordsN (Num.valN l / 2 ^ m), (0 : Int)) := by
 unfold nat_Shift.f
 refine Ev.bind (ev_trim l hl') ?_
 have ht := Num.okW_trim ok
 have hn := Num.normed_trim l
 have hid := Num.trimW_idem l
 rw [← Num.trimW_val l]
 generalize Num.trimW l = t at *
 have hlg := ev_large t (by omega)
 rw [hid] at hlg
 refine Ev.bind hlg ?_
 simp only [decide_eq_false (show ¬ 2000 < t.length by omega), Bool.false_eq_true, if_false, decide_eq_false (show ¬ -(m : Int) > 64000 by omega)]
 have ew : wrap64 (-(-(m : Int))) = (m : Int) := by rw [i64_id (by omega) (by omega)]; omega
 have ew2 : wrap64 ((-32) * (t.length : Int)) = (-32) * (t.length : Int) := i64_id (by omega) (by omega)
 by_cases c : -(m : Int) ≤ (-32) * (t.length : Int)
 ·refine Ev.step (f := fun _ => some (([] : List Int), (0 : Int))) (fun k => ?_) ?_
  ·simp only [nat_Shift.j0, Bool.false_eq_true, if_false]
   rw [if_neg (by omega), ew2, if_pos c]
  ·have : Num.valN t / 2 ^ m = 0 := by
    refine Nat.div_eq_of_lt (Nat.lt_of_lt_of_le (Num.valN_lt ht) ?_)
    rw [pow_words]
    exact Nat.pow_le_pow_right (by decide) (by omega)
   rw [this, Num.wordsN_zero]
   exact Ev.now _
 ·have eq : Int.tdiv (m : Int) 32 = ((m / 32 : Nat) : Int) := rfl
  have er : Int.tmod (m : Int) 32 = ((m % 32 : Nat) : Int) := rfl
  have ew3 : wrap64 ((m / 32 : Nat) : Int) = ((m / 32 : Nat) : Int) := i64_id (by omega) (by omega)
  have hlen : (t.drop (m / 32)).length = t.length - m / 32 := List.length_drop ..
  have h := shiftr_l0 (Num.okW_drop ht (m / 32)) (by omega) (s := m % 32) (by omega) (t.drop (m / 32)).length 0 (by omega)
  rw [drop_words_val ht, Nat.div_div_eq_div_mul, pow_words, ← Nat.pow_add, show 32 * (m / 32) + m % 32 = m by omega] at h
  refine Ev.step (fun k => ?_) h
  simp only [nat_Shift.j0, Bool.false_eq_true, if_false]
  rw [if_neg (by omega), ew2, if_neg c, ew, eq, er, ew3, if_pos (by omega), if_pos (by omega), Option.bind_some, Int.toNat_natCast, if_pos (by omega), if_pos (by omega), Int.toNat_natCast, List.take_zero, List.nil_append]
  rfl
/-- the answer to a value, or the refusal of a large one -/
def fitV (v : Nat) : List Int × Int := if 2000 < (Num.wordsN v).length then ([], 2) else (Num.wordsN v, 0)
theorem fitsW_V {l : List Int} (ok : Num.okW l) : fitsW l = fitV (Num.valN l) := by
 unfold fitsW fitV
 rw [Num.trim_words ok]
theorem val_zeros (q : Nat) (l : List Int) : Num.valN (List.replicate q 0 ++ l) = 4294967296 ^ q * Num.valN l := by
 rw [Num.valN_append, List.length_replicate]
 have : Num.valN (List.replicate q 0) = 0 := by
  induction q with
  | zero => rfl
  | succ q ih => rw [List.replicate_succ]; simp [Num.valN, ih]
 rw [this, Nat.zero_add]
theorem okW_zeros (q : Nat) : Num.okW (List.replicate q 0) := by
 intro x hx
 rw [List.eq_of_mem_replicate hx]
 decide
theorem shift_left (l : List Int) (ok : Num.okW l) (hl : (Num.trimW l).length ≤ 2000) (hl' : l.length ≤ 1000000000) (m : Nat) (hm : m ≤ 64000) : Ev (fun k => nat_Shift.f k l (m : Int)) (fitV (Num.valN l * 2 ^ m)) := by
 unfold nat_Shift.f
 refine Ev.bind (ev_trim l hl') ?_
 have ht := Num.okW_trim ok
 have hid := Num.trimW_idem l
 rw [← Num.trimW_val l]
 generalize Num.trimW l = t at *
 have hlg := ev_large t (by omega)
 rw [hid] at hlg
 refine Ev.bind hlg ?_
 simp only [decide_eq_false (show ¬ 2000 < t.length by omega), Bool.false_eq_true, if_false, decide_eq_false (show ¬ (m : Int) > 64000 by omega)]
 have eq : Int.tdiv (m : Int) 32 = ((m / 32 : Nat) : Int) := rfl
 have er : Int.tmod (m : Int) 32 = ((m % 32 : Nat) : Int) := rfl
 have ew3 : wrap64 ((m / 32 : Nat) : Int) = ((m / 32 : Nat) : Int) := i64_id (by omega) (by omega)
 obtain ⟨R, o, hlen, v, hev⟩ := ev_moved t ht (by omega) (m % 32) (by omega)
 have hval : Num.valN (List.replicate (m / 32) 0 ++ R) = Num.valN t * 2 ^ m := by
  rw [val_zeros, v, pow_words, Nat.mul_left_comm, ← Nat.pow_add, show 32 * (m / 32) + m % 32 = m by omega]
 have ho : Num.okW (List.replicate (m / 32) 0 ++ R) := Num.okW_append.2 ⟨okW_zeros _, o⟩
 refine Ev.step (f := fun k => (nat_moved.f k t ((m % 32 : Nat) : Int)).bind fun t265 => (if (List.replicate (m / 32) (0 : Int)).length + t265.length < 35184372088832 then ((nat_fits.f k (List.replicate (m / 32) 0 ++ t265)).bind fun bt271 => (some (bt271.1, bt271.2))) else (none))) (fun k => ?_) ?_
 ·simp only [nat_Shift.j0, Bool.false_eq_true, if_false]
  rw [if_pos (by omega), eq, er, ew3, if_pos (by omega), if_pos (by omega), Option.bind_some, Int.toNat_natCast]
 ·refine Ev.bind hev ?_
  simp only [List.length_replicate, if_pos (show m / 32 + R.length < 35184372088832 by omega)]
  have := ev_fits (List.replicate (m / 32) 0 ++ R) (by simp only [List.length_append, List.length_replicate]; omega)
  rw [fitsW_V ho, hval] at this
  exact Ev.bind this (Ev.now _)
theorem digit_top {P u2 u1 u0 v1 v0 rU rV U V : Nat} (hU : U = rU + P * (u0 + 4294967296 * (u1 + 4294967296 * u2)))
  (hV : V = rV + P * (v0 + 4294967296 * v1)) (hrV : rV < P) (hv0 : v0 < 4294967296) (hlt : U < 4294967296 * V) : u2 ≤ v1 := by
 have hV1 : V < P * (4294967296 * (v1 + 1)) := by
  have : P * (v0 + 4294967296 * v1 + 1) ≤ P * (4294967296 * (v1 + 1)) := Nat.mul_le_mul_left _ (by omega)
  rw [Nat.mul_add P, Nat.mul_one] at this
  omega
 rcases Nat.lt_or_ge v1 u2 with h | h
 ·exfalso
  have h1 : P * (4294967296 * (4294967296 * (v1 + 1))) ≤ P * (u0 + 4294967296 * (u1 + 4294967296 * u2)) := Nat.mul_le_mul_left _ (by omega)
  have h2 : 4294967296 * V < 4294967296 * (P * (4294967296 * (v1 + 1))) := Nat.mul_lt_mul_of_pos_left hV1 (by decide)
  rw [Nat.mul_left_comm 4294967296 P] at h2
  omega
 ·exact h
/-- n words' part of a value, and what the guess is good for -/
theorem digit_bound {P u2 u1 u0 v1 v0 rU rV U V m : Nat} (hP : 0 < P) (hU : U = rU + P * (u0 + 4294967296 * (u1 + 4294967296 * u2))) (hrU : rU < P) (hu0 : u0 < 4294967296) (hu1 : u1 < 4294967296)
  (hV : V = rV + P * (v0 + 4294967296 * v1)) (hrV : rV < P) (hv0 : v0 < 4294967296) (hlt : U < 4294967296 * V) (hv1 : 0 < v1) (hm : m < 4294967296) (hmv : m * v1 ≤ u2 * 4294967296 + u1)
  (hq : ∀ q, q < 4294967296 → q * (v1 * 4294967296 + v0) ≤ (u2 * 4294967296 + u1) * 4294967296 + u0 → q ≤ m) :
  u2 ≤ v1 ∧ U / V ≤ m ∧ m * V ≤ U + P * 4294967296 * 4294967296 := by
 have hV0 : 0 < V := by
  have : P * 1 ≤ P * (v0 + 4294967296 * v1) := Nat.mul_le_mul_left _ (by omega)
  omega
 have hV1 : V < P * (4294967296 * (v1 + 1)) := by
  have : P * (v0 + 4294967296 * v1 + 1) ≤ P * (4294967296 * (v1 + 1)) := Nat.mul_le_mul_left _ (by omega)
  rw [Nat.mul_add P, Nat.mul_one] at this
  omega
 have h21 : u2 ≤ v1 := by
  rcases Nat.lt_or_ge v1 u2 with h | h
  ·exfalso
   have h1 : P * (4294967296 * (4294967296 * (v1 + 1))) ≤ P * (u0 + 4294967296 * (u1 + 4294967296 * u2)) := Nat.mul_le_mul_left _ (by omega)
   have h2 : 4294967296 * V < 4294967296 * (P * (4294967296 * (v1 + 1))) := Nat.mul_lt_mul_of_pos_left hV1 (by decide)
   rw [Nat.mul_left_comm 4294967296 P] at h2
   omega
  ·exact h
 refine ⟨h21, ?_, ?_⟩
 ·have hqlt : U / V < 4294967296 := by rw [Nat.div_lt_iff_lt_mul hV0]; exact hlt
  refine hq _ hqlt ?_
  have h1 : U / V * V ≤ U := Nat.div_mul_le_self U V
  generalize U / V = q at *
  have h2 : q * (P * (v0 + 4294967296 * v1)) ≤ q * V := Nat.mul_le_mul_left _ (by omega)
  have h3 : P * (q * (v0 + 4294967296 * v1)) < P * ((u2 * 4294967296 + u1) * 4294967296 + u0 + 1) := by
   rw [Nat.mul_left_comm] at h2
   have : U < P * ((u2 * 4294967296 + u1) * 4294967296 + u0 + 1) := by
    rw [Nat.mul_add P _ 1, Nat.mul_one, show (u2 * 4294967296 + u1) * 4294967296 + u0 = u0 + 4294967296 * (u1 + 4294967296 * u2) by omega]
    omega
   omega
  have h4 := Nat.lt_of_mul_lt_mul_left h3
  rw [show v1 * 4294967296 + v0 = v0 + 4294967296 * v1 by omega]
  omega
 ·have h1 : m * V ≤ m * (P * (4294967296 * (v1 + 1))) := Nat.mul_le_mul_left _ (Nat.le_of_lt hV1)
  have e : m * (P * (4294967296 * (v1 + 1))) = P * (4294967296 * (m * v1 + m)) := by
   rw [Nat.mul_left_comm m P, Nat.mul_left_comm m 4294967296, Nat.mul_add m, Nat.mul_one]
  have h2 : P * (4294967296 * (m * v1 + m)) ≤ P * (u0 + 4294967296 * (u1 + 4294967296 * u2) + 4294967296 * 4294967296) := Nat.mul_le_mul_left _ (by omega)
  rw [Nat.mul_add P _ (4294967296 * 4294967296)] at h2
  omega
/-- behind a step too far, given back once -/
theorem give_back {M Bn x x' d V U bo o : Nat} (hx : x + (d + 1) * V = U + M * bo) (hbo : bo ≤ 1) (hxM : x < M) (hU : U < (d + 1) * V) (hx' : x' + M * o = x + V) (hxM' : x' < M) (hV : V ≤ Bn) (hBn : 2 * Bn ≤ M) (hVpos : 0 < V) (hdV : (d + 1) * V ≤ U + Bn) :
  ∃ bo' : Nat, bo' ≤ 1 ∧ x' + d * V = U + M * bo' ∧ (bo' = 0 ↔ x' < Bn) ∧ (bo' = 0 ↔ d * V ≤ U) := by
 rw [Nat.add_mul, Nat.one_mul] at hx hU hdV
 generalize d * V = D at *
 have hb1 : bo = 1 := by
  rcases Nat.eq_zero_or_pos bo with h | h
  ·subst h; omega
  ·omega
 subst hb1
 rw [Nat.mul_one] at hx
 rcases Nat.lt_or_ge U D with h | h
 ·have ho : o = 0 := by
   rcases Nat.eq_zero_or_pos o with h0 | h0
   ·exact h0
   ·have : M * 1 ≤ M * o := Nat.mul_le_mul_left _ h0
    omega
  subst ho
  exact ⟨1, Nat.le_refl _, by omega, by omega, by omega⟩
 ·have ho : o = 1 := by
   rcases Nat.lt_or_ge o 1 with h0 | h0
   ·have : o = 0 := by omega
    subst this; omega
   ·rcases Nat.lt_or_ge 1 o with h1 | h1
    ·have : M * 2 ≤ M * o := Nat.mul_le_mul_left _ h1
     omega
    ·omega
  subst ho
  exact ⟨0, by decide, by omega, by omega, by omega⟩
theorem three {U : List Int} {j h : Nat} (h1 : j ≤ h) : U.take j ++ (U.take h).drop j ++ U.drop h = U := by
 have h3 : U.take j = (U.take h).take j := by rw [List.take_take, Nat.min_eq_left h1]
 rw [h3, List.take_append_drop, List.take_append_drop]
theorem three_val {L X T : List Int} : Num.valN (L ++ X ++ T) = Num.valN L + 4294967296 ^ L.length * Num.valN X + 4294967296 ^ (L.length + X.length) * Num.valN T := by
 rw [Num.valN_append, Num.valN_append, List.length_append]
theorem rd_part {L X T : List Int} {i : Nat} (h : i < X.length) : rd (L ++ X ++ T) ((L.length + i : Nat) : Int) = rd X (i : Int) := by
 rw [rd_getD, rd_getD, List.getD_eq_getElem?_getD, List.getD_eq_getElem?_getD, List.append_assoc, List.getElem?_append_right (by omega), Nat.add_sub_cancel_left, List.getElem?_append_left h]
theorem top_word {X : List Int} (ok : Num.okW X) {n : Nat} (h : X.length = n + 1) : Num.valN X = Num.valN (X.take n) + 4294967296 ^ n * (rd X (n : Int)).toNat ∧ Num.valN (X.take n) < 4294967296 ^ n := by
 constructor
 ·have := Num.val_take_next X n
  rw [List.take_of_length_le (l := X) (i := n + 1) (by omega), ← rd_toNat] at this
  exact this
 ·have := Num.valN_lt (Num.okW_take ok n)
  rw [List.length_take, Nat.min_eq_left (by omega)] at this
  exact this
theorem takeAt_ev {L X T V X' : List Int} {d n : Nat} {b : Bool} (hX : X.length = n + 1) (hl : L.length + n + 1 ≤ 100000000) (h : Ev (fun k => nat_take.f k X V (d : Int)) (b, X')) :
  Ev (fun k => nat_takeAt.f k (L ++ X ++ T) (L.length : Int) (n : Int) V (d : Int)) (b, L ++ X' ++ T) := by
 have e1 : wrap64 (wrap64 ((L.length : Int) + (n : Int)) + 1) = ((L.length + n + 1 : Nat) : Int) := by
  rw [i64_id (x := (L.length : Int) + (n : Int)) (by omega) (by omega), i64_id (by omega) (by omega)]; rfl
 have e2 : (L ++ X ++ T).take (L.length + n + 1) = L ++ X := List.take_left' (by rw [List.length_append]; omega)
 have e3 : (L ++ X ++ T).drop (L.length + n + 1) = T := List.drop_left' (by rw [List.length_append]; omega)
 have e4 : (L ++ X ++ T).take L.length = L := by rw [List.append_assoc]; exact List.take_left
 refine Ev.congr (f := fun k => (nat_take.f k X V (d : Int)).bind fun bt => some (bt.1, L ++ bt.2 ++ T)) (fun k => ?_) (Ev.bind h (Ev.now _))
 unfold nat_takeAt.f
 rw [e1, if_pos (by omega), if_pos (by omega), if_pos (by simp only [List.length_append]; omega), Int.toNat_natCast, Int.toNat_natCast, e2, e3, e4, List.drop_left]
theorem giveAt_ev {L X T V X' : List Int} {n : Nat} (hX : X.length = n + 1) (hl : L.length + n + 1 ≤ 100000000) (h : Ev (fun k => nat_give.f k X V) X') :
  Ev (fun k => nat_giveAt.f k (L ++ X ++ T) (L.length : Int) (n : Int) V) (L ++ X' ++ T) := by
 have e1 : wrap64 (wrap64 ((L.length : Int) + (n : Int)) + 1) = ((L.length + n + 1 : Nat) : Int) := by
  rw [i64_id (x := (L.length : Int) + (n : Int)) (by omega) (by omega), i64_id (by omega) (by omega)]; rfl
 have e2 : (L ++ X ++ T).take (L.length + n + 1) = L ++ X := List.take_left' (by rw [List.length_append]; omega)
 have e3 : (L ++ X ++ T).drop (L.length + n + 1) = T := List.drop_left' (by rw [List.length_append]; omega)
 have e4 : (L ++ X ++ T).take L.length = L := by rw [List.append_assoc]; exact List.take_left
 refine Ev.congr (f := fun k => (nat_give.f k X V).bind fun t => some (L ++ t ++ T)) (fun k => ?_) (Ev.bind h (Ev.now _))
 unfold nat_giveAt.f
 rw [e1, if_pos (by omega), if_pos (by omega), if_pos (by simp only [List.length_append]; omega), Int.toNat_natCast, Int.toNat_natCast, e2, e3, e4, List.drop_left]
/-- the inner loop: what was taken too much is given back -/
theorem div_l1 {V L T Q : List Int} {by_ : Int} {n : Nat} (oV : Num.okW V) (hV : V.length = n) (hn : n ≤ 1000000) (hL : L.length ≤ 10000000) (hQ : L.length < Q.length) (hVpos : 0 < Num.valN V) (U q : Nat) (hqd : q = U / Num.valN V) (hqB : q < 4294967296)
  {R : List Int × List Int × Int} (K : ∀ X : List Int, Num.okW X → X.length = n + 1 → Num.valN X = U % Num.valN V → Ev (fun k => nat_Divide.l0 k (Q.set L.length (q : Int)) by_ (L ++ X ++ T) V (n : Int) ((L.length : Int) - 1)) R) (t : Nat) :
  ∀ (X : List Int) (bo : Nat), Num.okW X → X.length = n + 1 → q + t < 4294967296 → bo ≤ 1 → Num.valN X + (q + t) * Num.valN V = U + 4294967296 ^ (n + 1) * bo → (q + t) * Num.valN V ≤ U + 4294967296 ^ n →
   Ev (fun k => nat_Divide.l1 k Q by_ (L ++ X ++ T) V (n : Int) (L.length : Int) ((q + t : Nat) : Int) (decide (bo ≠ 0))) R := by
 have hdm := Nat.div_add_mod U (Num.valN V)
 have hml := Nat.mod_lt U hVpos
 rw [← hqd, Nat.mul_comm] at hdm
 have hVB : Num.valN V < 4294967296 ^ n := by have := Num.valN_lt oV; rw [hV] at this; exact this
 induction t with
 | zero =>
  intro X bo oX hX hB hbo hv hle
  rw [Nat.add_zero] at hv hle ⊢
  have hXB := Num.valN_lt oX
  rw [hX] at hXB
  have h0 : bo = 0 := by
   rcases Nat.eq_zero_or_pos bo with h | h
   ·exact h
   ·have : bo = 1 := by omega
    subst this
    omega
  subst h0
  have hv2 : Num.valN X = U % Num.valN V := by omega
  refine Ev.step (fun k => ?_) (K X oX hX hv2)
  simp only [nat_Divide.l1]
  rw [if_neg (by simp), if_pos (by omega), if_pos (by omega), Int.toNat_natCast, show ((q : Nat) : Int) % 4294967296 = (q : Int) by omega, i64_id (by omega) (by omega)]
 | succ t ih =>
  intro X bo oX hX hB hbo hv hle
  have hXB := Num.valN_lt oX
  rw [hX] at hXB
  have hUlt : U < (q + t + 1) * Num.valN V := by
   have : (q + 1) * Num.valN V ≤ (q + t + 1) * Num.valN V := Nat.mul_le_mul_right _ (by omega)
   rw [Nat.add_mul, Nat.one_mul] at this
   omega
  obtain ⟨X', oX', lX', ⟨o, hval⟩, hev⟩ := ev_give X V oX oV (by omega) (by omega)
  have hXB' := Num.valN_lt oX'
  rw [lX', hX] at hXB'
  rw [hX] at hval
  obtain ⟨bo', h1, h2, h3, h4⟩ := give_back (d := q + t) (M := 4294967296 ^ (n + 1)) (Bn := 4294967296 ^ n) (o := o) hv hbo hXB hUlt hval hXB' (Nat.le_of_lt hVB) (by rw [Nat.pow_succ]; omega) hVpos hle
  have hbo1 : bo ≠ 0 := by
   intro h
   subst h
   rw [← Nat.add_assoc] at hv
   omega
  have htop := top_word oX' (n := n) (by omega)
  have hrdp : rd (L ++ X' ++ T) ((L.length : Int) + (n : Int)) = rd X' (n : Int) := by
   have := rd_part (L := L) (X := X') (T := T) (i := n) (by omega)
   rw [← this]
   congr 1
  have orx := rd_ok oX' n
  have htoo : (rd X' (n : Int) != 0) = decide (bo' ≠ 0) := by
   have hz : rd X' (n : Int) = 0 ↔ Num.valN X' < 4294967296 ^ n := by
    constructor
    ·intro h
     rw [h] at htop
     have := htop.1
     simp only [Int.toNat_zero, Nat.mul_zero, Nat.add_zero] at this
     rw [this]
     exact htop.2
    ·intro h
     rcases Nat.eq_zero_or_pos (rd X' (n : Int)).toNat with h5 | h5
     ·omega
     ·have h6 : 4294967296 ^ n * 1 ≤ 4294967296 ^ n * (rd X' (n : Int)).toNat := Nat.mul_le_mul_left _ h5
      have := htop.1
      omega
   by_cases hb : bo' = 0
   ·rw [hz.2 (h3.1 hb), hb]; rfl
   ·have : ¬ rd X' (n : Int) = 0 := fun h => hb (h3.2 (hz.1 h))
    rw [bne_iff_ne.2 this, decide_eq_true hb]
  have hle' : (q + t) * Num.valN V ≤ U + 4294967296 ^ n := by
   have : (q + t) * Num.valN V ≤ (q + (t + 1)) * Num.valN V := Nat.mul_le_mul_right _ (by omega)
   omega
  have hrec := ih X' bo' oX' (by omega) (by omega) h1 h2 hle'
  have hg := giveAt_ev (L := L) (T := T) (n := n) hX (by omega) hev
  refine Ev.step (f := fun k => (nat_giveAt.f k (L ++ X ++ T) (L.length : Int) (n : Int) V).bind fun t581 => nat_Divide.l1 k Q by_ t581 V (n : Int) (L.length : Int) ((q + t : Nat) : Int) ((rd t581 ((L.length : Int) + (n : Int))) != 0)) (fun k => ?_) ?_
  ·simp only [nat_Divide.l1]
   rw [if_pos (by simpa using hbo1), i64_id (show -9223372036854775808 ≤ (L.length : Int) + (n : Int) by omega) (by omega)]
   have hlen : (L.length : Int) + (n : Int) < ((L ++ X ++ T).length : Int) := by simp only [List.length_append]; omega
   simp only [if_pos (show 0 ≤ (L.length : Int) + (n : Int) by omega), if_pos hlen]
   rw [show ((q + (t + 1) : Nat) : Int) - 1 = ((q + t : Nat) : Int) by omega, u64_id (by omega) (by omega)]
  ·refine Ev.bind hg ?_
   rw [hrdp, htoo]
   exact hrec
theorem part_lt {U : List Int} {j n : Nat} {v : Nat} (ok : Num.okW U) (hj : j + n + 1 ≤ U.length) (h : Num.valN (U.drop (j + 1)) < v) (hv : v ≤ 4294967296 ^ n) :
  Num.valN (U.drop (j + n + 1)) = 0 ∧ Num.valN ((U.take (j + n + 1)).drop j) < 4294967296 * v := by
 have e1 : U.drop (j + 1) = (U.drop (j + 1)).take n ++ (U.drop (j + 1)).drop n := (List.take_append_drop _ _).symm
 have l1 : ((U.drop (j + 1)).take n).length = n := by rw [List.length_take, List.length_drop]; omega
 have e2 : Num.valN (U.drop (j + 1)) = Num.valN ((U.drop (j + 1)).take n) + 4294967296 ^ n * Num.valN (U.drop (j + n + 1)) := by
  rw [e1, Num.valN_append, l1, ← e1, List.drop_drop, show j + 1 + n = j + n + 1 by omega]
 have h0 : Num.valN (U.drop (j + n + 1)) = 0 := by
  rcases Nat.eq_zero_or_pos (Num.valN (U.drop (j + n + 1))) with h0 | h0
  ·exact h0
  ·have : 4294967296 ^ n * 1 ≤ 4294967296 ^ n * Num.valN (U.drop (j + n + 1)) := Nat.mul_le_mul_left _ h0
   omega
 refine ⟨h0, ?_⟩
 have e3 : (U.take (j + n + 1)).drop j = rd U (j : Int) :: (U.drop (j + 1)).take n := by
  rw [List.drop_take, show j + n + 1 - j = n + 1 by omega, List.drop_eq_getElem_cons (by omega), List.take_succ_cons, rd_getD, List.getD_eq_getElem?_getD, List.getElem?_eq_getElem (by omega)]
  rfl
 have orx := rd_ok ok j
 rw [e3, Num.valN]
 rw [h0, Nat.mul_zero, Nat.add_zero] at e2
 omega
theorem val_zero_rep {Q : List Int} {j : Nat} {v : Int} (hj : j < Q.length) (h0 : rd Q (j : Int) = 0) (hv : 0 ≤ v) : Num.valN (Q.set j v) = Num.valN Q + 4294967296 ^ j * v.toNat := by
 have e1 : Q = Q.take j ++ 0 :: Q.drop (j + 1) := by
  have : (0 : Int) = Q[j] := by rw [← h0, rd_getD, List.getD_eq_getElem?_getD, List.getElem?_eq_getElem hj]; rfl
  rw [this, List.getElem_cons_drop, List.take_append_drop]
 have e2 : Q.set j v = Q.take j ++ v :: Q.drop (j + 1) := by
  rw [List.set_eq_take_append_cons_drop, if_pos hj]
 have lt : (Q.take j).length = j := by rw [List.length_take]; omega
 rw [e2]
 conv => rhs; rw [e1]
 rw [Num.valN_append, Num.valN_append, lt]
 simp only [Num.valN, Int.toNat_zero, Nat.zero_add, Nat.mul_add]
 omega
theorem divr_l2 {u : List Int} {q : List Int} (ok : Num.okW u) {s : Nat} (hs : s ≤ 32) {n : Nat} (hn : n ≤ 1000000) (hu : n + 1 ≤ u.length) (hul : u.length ≤ 100000000) (hlt : Num.valN u < 4294967296 ^ n) (oq : Num.okW q) (hq : q.length ≤ 100000000) (d : Nat) : ∀ i : Nat, i + d = n →
  Ev (fun k => nat_Divide.l2 k q ((rsW s u).take i ++ List.replicate d 0) (s : Int) u (n : Int) (i : Int)) (Num.wordsN (Num.valN q), Num.wordsN (Num.valN u / 2 ^ s), (0 : Int)) := by
 have hrl := rsW_len s u
 induction d with
 | zero =>
  intro i hi
  refine Ev.step (f := fun k => (nat_trim.f k q).bind fun t590 => ((nat_trim.f k ((rsW s u).take n)).bind fun t593 => (some (t590, t593, (0 : Int))))) (fun k => ?_) ?_
  ·simp only [nat_Divide.l2]
   rw [if_neg (by omega), List.replicate_zero, List.append_nil, show i = n by omega]
  ·refine Ev.bind (ev_trim q (by omega)) (Ev.bind (ev_trim _ (by rw [List.length_take]; omega)) ?_)
   rw [Num.trim_words oq, Num.trim_words (Num.okW_take (rsW_ok s u) n), val_take_of_lt (by rw [rsW_val hs u ok]; exact Nat.lt_of_le_of_lt (Nat.div_le_self _ _) hlt), rsW_val hs u ok]
   exact Ev.now _
 | succ d ih =>
  intro i hi
  have ox := rd_ok ok i
  have ox1 := rd_ok ok (i + 1)
  obtain ⟨a, ha⟩ := Int.eq_ofNat_of_zero_le ox.1
  obtain ⟨b, hb⟩ := Int.eq_ofNat_of_zero_le ox1.1
  have Ew := Aside0.mk (show wrap64 ((i : Int) + 1) = ((i + 1 : Nat) : Int) by rw [i64_id (by omega) (by omega)]; rfl)
  have hlt' : ((rsW s u).take i).length = i := by rw [List.length_take, rsW_len]; omega
  have hg := rsW_get s u i (by omega)
  rw [ha, hb, Int.toNat_natCast, Int.toNat_natCast] at hg
  have Hset := Aside0.mk (show ((rsW s u).take i ++ List.replicate (d + 1) 0).set i ((rsW s u).getD i 0) = (rsW s u).take (i + 1) ++ List.replicate d 0 by
   have := set_next ((rsW s u).take i) d ((rsW s u).getD i 0)
   rw [hlt'] at this
   rw [this, take_next (by rw [rsW_len]; omega)])
  have hl : ((rsW s u).take i ++ List.replicate (d + 1) 0).length = n := by rw [List.length_append, hlt', List.length_replicate]; omega
  have Hval := Aside0.mk (show (((a + 4294967296 * b) / 2 ^ s : Nat) : Int) % 4294967296 = (rsW s u).getD i 0 by rw [hg]; generalize (a + 4294967296 * b) / 2 ^ s = z; omega)
  clear hg hlt
  refine Ev.step (fun k => ?_) (ih (i + 1) (by omega))
  simp only [nat_Divide.l2]
  rw [if_pos (by omega), Ew.out, if_pos (by omega), if_pos (by omega), if_pos (by omega), if_pos (by omega), if_pos (by omega), if_pos (by omega), ha, hb, or_words (by omega) (by omega), shr_val hs, Hval.out, Int.toNat_natCast, Hset.out]
/-- the digits, the highest first -/
theorem div_l0 {V : List Int} {n s : Nat} (oV : Num.okW V) (hV : V.length = n + 2) (hn : n ≤ 100000) (hs : s ≤ 32) (hv1 : 0 < rd V ((n + 1 : Nat) : Int)) (qn : Nat) (hqn : qn ≤ 1000000) (A : Nat) (m : Nat) :
  ∀ (Q U : List Int), m ≤ qn → Q.length = qn → U.length = n + 2 + qn → Num.okW Q → Num.okW U → 0 < qn →
   Num.valN Q * Num.valN V + Num.valN U = A → (∀ i : Nat, i < m → rd Q (i : Int) = 0) → Num.valN (U.drop m) < Num.valN V →
   Ev (fun k => nat_Divide.l0 k Q (s : Int) U V ((n + 2 : Nat) : Int) ((m : Int) - 1)) (Num.wordsN (A / Num.valN V), Num.wordsN (A % Num.valN V / 2 ^ s), (0 : Int)) := by
 have hVB : Num.valN V < 4294967296 ^ (n + 2) := by have := Num.valN_lt oV; rw [hV] at this; exact this
 have orv1 := rd_ok oV (n + 1)
 have orv0 := rd_ok oV n
 obtain ⟨v1, hv1e⟩ := Int.eq_ofNat_of_zero_le orv1.1
 obtain ⟨v0, hv0e⟩ := Int.eq_ofNat_of_zero_le orv0.1
 have topV1 := top_word oV (n := n + 1) (by omega)
 have nextV : Num.valN (V.take (n + 1)) = Num.valN (V.take n) + 4294967296 ^ n * v0 := by
  have := Num.val_take_next V n
  rw [← rd_toNat, hv0e, Int.toNat_natCast] at this
  exact this
 have rV : Num.valN (V.take n) < 4294967296 ^ n := by
  have := Num.valN_lt (Num.okW_take oV n)
  rw [List.length_take, Nat.min_eq_left (by omega)] at this
  exact this
 have hVdec : Num.valN V = Num.valN (V.take n) + 4294967296 ^ n * (v0 + 4294967296 * v1) := by
  rw [topV1.1, nextV, hv1e, Int.toNat_natCast, Nat.pow_succ, Nat.mul_add, ← Nat.mul_assoc]
  omega
 have hVpos : 0 < Num.valN V := by
  rw [hVdec]
  have h1 : 4294967296 ^ n * 1 ≤ 4294967296 ^ n * (v0 + 4294967296 * v1) := Nat.mul_le_mul_left _ (by omega)
  have h2 : 0 < 4294967296 ^ n := Nat.pow_pos (by decide)
  omega
 have hv1' : 0 < v1 ∧ v1 < 4294967296 := by omega
 have hv0' : v0 < 4294967296 := by omega
 clear topV1 nextV
 induction m with
 | zero =>
  intro Q U _ hQ hU oQ oU hq0 hA _ hlt
  rw [List.drop_zero] at hlt
  have e1 : A / Num.valN V = Num.valN Q := by
   rw [← hA, Nat.add_comm, Nat.add_mul_div_right _ _ hVpos, Nat.div_eq_of_lt hlt, Nat.zero_add]
  have e2 : A % Num.valN V = Num.valN U := by
   rw [← hA, Nat.add_comm, Nat.add_mul_mod_self_right, Nat.mod_eq_of_lt hlt]
  rw [e1, e2]
  have h := divr_l2 oU hs (n := n + 2) (by omega) (by omega) (by omega) (Nat.lt_trans hlt hVB) oQ (by omega) (n + 2) 0 (by omega)
  refine Ev.step (fun k => ?_) h
  simp only [nat_Divide.l0]
  rw [if_neg (by omega), if_pos (by omega), if_pos (by omega), Option.bind_some, Int.toNat_natCast, List.length_replicate, List.take_zero, List.nil_append]
  rfl
 | succ j ih =>
  intro Q U hm hQ hU oQ oU hq0 hA hz hlt
  obtain ⟨hT0, hXlt⟩ := part_lt oU (j := j) (n := n + 2) (by omega) hlt (Nat.le_of_lt hVB)
  have hUe := three (U := U) (j := j) (h := j + (n + 2) + 1) (by omega)
  have oX : Num.okW ((U.take (j + (n + 2) + 1)).drop j) := Num.okW_drop (Num.okW_take oU _) _
  have lX : ((U.take (j + (n + 2) + 1)).drop j).length = n + 2 + 1 := by rw [List.length_drop, List.length_take]; omega
  have lL : (U.take j).length = j := by rw [List.length_take]; omega
  have oL : Num.okW (U.take j) := Num.okW_take oU _
  have oT : Num.okW (U.drop (j + (n + 2) + 1)) := Num.okW_drop oU _
  have lT : (U.drop (j + (n + 2) + 1)).length = qn - j - 1 := by rw [List.length_drop]; omega
  generalize U.drop (j + (n + 2) + 1) = T at *
  generalize (U.take (j + (n + 2) + 1)).drop j = X at *
  generalize U.take j = L at *
  subst hUe
  -- the part's highest words
  have r2 := rd_ok oX (n + 2)
  have r1 := rd_ok oX (n + 1)
  have r0 := rd_ok oX n
  obtain ⟨u2, hu2⟩ := Int.eq_ofNat_of_zero_le r2.1
  obtain ⟨u1, hu1⟩ := Int.eq_ofNat_of_zero_le r1.1
  obtain ⟨u0, hu0⟩ := Int.eq_ofNat_of_zero_le r0.1
  have hu2' : u2 < 4294967296 := by omega
  have hu1' : u1 < 4294967296 := by omega
  have hu0' : u0 < 4294967296 := by omega
  have rX : Num.valN (X.take n) < 4294967296 ^ n := by
   have := Num.valN_lt (Num.okW_take oX n)
   rw [List.length_take, Nat.min_eq_left (by omega)] at this
   exact this
  have hXdec : Num.valN X = Num.valN (X.take n) + 4294967296 ^ n * (u0 + 4294967296 * (u1 + 4294967296 * u2)) := by
   have a1 := (top_word oX (n := n + 2) (by omega)).1
   have a2 := Num.val_take_next X (n + 1)
   have a3 := Num.val_take_next X n
   rw [← rd_toNat, hu1, Int.toNat_natCast] at a2
   rw [← rd_toNat, hu0, Int.toNat_natCast] at a3
   rw [a1, a2, a3, hu2, Int.toNat_natCast]
   clear a1 a2 a3
   simp only [Nat.pow_succ, Nat.mul_add, ← Nat.mul_assoc]
   omega
  have hm21 := digit_top hXdec hVdec rV hv0' hXlt
  obtain ⟨m, hmB, hmv, hmq, hgev⟩ := ev_guess u2 u1 u0 v1 v0 hu2' hu1' hu0' hv1' hv0' hm21
  obtain ⟨_, hqm, hmV⟩ := digit_bound (Nat.pow_pos (by decide)) hXdec rX hu0' hu1' hVdec rV hv0' hXlt hv1'.1 hmB hmv hmq
  have hmV' : m * Num.valN V ≤ Num.valN X + 4294967296 ^ (n + 2) := by
   rw [Nat.pow_succ, Nat.pow_succ]; exact hmV
  obtain ⟨X', oX', lX', bo, hbo, hval, htev⟩ := ev_take X V oX oV m hmB (by omega) (by omega)
  rw [lX] at hval
  have hdm := Nat.div_add_mod (Num.valN X) (Num.valN V)
  have hml := Nat.mod_lt (Num.valN X) hVpos
  obtain ⟨q, hq⟩ : ∃ q, q = Num.valN X / Num.valN V := ⟨_, rfl⟩
  rw [← hq] at hqm hdm
  obtain ⟨t, ht⟩ : ∃ t, m = q + t := ⟨m - q, by omega⟩
  have hA0 : rd Q (j : Int) = 0 := hz j (by omega)
  have hcont : ∀ X2 : List Int, Num.okW X2 → X2.length = n + 2 + 1 → Num.valN X2 = Num.valN X % Num.valN V → Ev (fun k => nat_Divide.l0 k (Q.set L.length (q : Int)) (s : Int) (L ++ X2 ++ T) V ((n + 2 : Nat) : Int) ((L.length : Int) - 1)) (Num.wordsN (A / Num.valN V), Num.wordsN (A % Num.valN V / 2 ^ s), (0 : Int)) := by
   intro X2 oX2 lX2 hX2
   rw [lL]
   refine ih (Q.set j (q : Int)) (L ++ X2 ++ T) (by omega) (by rw [List.length_set]; exact hQ) (by simp only [List.length_append] at hU ⊢; omega) ?_ ?_ hq0 ?_ ?_ ?_
   ·intro z hz2
    rcases List.mem_or_eq_of_mem_set hz2 with h | h
    ·exact oQ z h
    ·rw [h]; clear hval hdm hml hmV hmV' hA hlt hXlt; omega
   ·exact Num.okW_append.2 ⟨Num.okW_append.2 ⟨oL, oX2⟩, oT⟩
   ·rw [val_zero_rep (by omega) hA0 (Int.natCast_nonneg _), Int.toNat_natCast, three_val, hX2, lX2, lL, hT0, Nat.mul_zero, Nat.add_zero]
    rw [three_val, lX, lL, hT0, Nat.mul_zero, Nat.add_zero] at hA
    rw [Nat.add_mul, ← hA]
    have e5 : 4294967296 ^ j * q * Num.valN V + 4294967296 ^ j * (Num.valN X % Num.valN V) = 4294967296 ^ j * Num.valN X := by
     rw [Nat.mul_assoc, ← Nat.mul_add, Nat.mul_comm q, hdm]
    omega
   ·intro i hi
    have : rd (Q.set j (q : Int)) (i : Int) = rd Q (i : Int) := by
     rw [rd_getD, rd_getD, List.getD_eq_getElem?_getD, List.getD_eq_getElem?_getD, List.getElem?_set_ne (by omega)]
    rw [this]
    exact hz i (by omega)
   ·rw [List.append_assoc, List.drop_left' lL, Num.valN_append, hT0, Nat.mul_zero, Nat.add_zero, hX2]
    exact hml
  have hin := div_l1 (V := V) (L := L) (T := T) (Q := Q) (by_ := (s : Int)) (n := n + 2) oV hV (by omega) (by omega) (by omega) hVpos (Num.valN X) q hq (by omega) hcont t X' bo oX' (by omega) (by omega) hbo (by rw [← ht]; exact hval) (by rw [← ht]; exact hmV')
  rw [← ht] at hin
  have htk := takeAt_ev (L := L) (T := T) (n := n + 2) lX (by omega) htev
  have p2 : rd (L ++ X ++ T) ((j + (n + 2) : Nat) : Int) = (u2 : Int) := by
   have := rd_part (L := L) (X := X) (T := T) (i := n + 2) (by omega)
   rw [lL] at this
   rw [this, hu2]
  have p1 : rd (L ++ X ++ T) ((j + (n + 1) : Nat) : Int) = (u1 : Int) := by
   have := rd_part (L := L) (X := X) (T := T) (i := n + 1) (by omega)
   rw [lL] at this
   rw [this, hu1]
  have p0 : rd (L ++ X ++ T) ((j + n : Nat) : Int) = (u0 : Int) := by
   have := rd_part (L := L) (X := X) (T := T) (i := n) (by omega)
   rw [lL] at this
   rw [this, hu0]
  refine Ev.step (f := fun k => (nat_guess.f k (u2 : Int) (u1 : Int) (u0 : Int) (v1 : Int) (v0 : Int)).bind fun t578 => ((nat_takeAt.f k (L ++ X ++ T) (j : Int) ((n + 2 : Nat) : Int) V t578).bind fun bt579 => (nat_Divide.l1 k Q (s : Int) bt579.2 V ((n + 2 : Nat) : Int) (j : Int) t578 bt579.1))) (fun k => ?_) ?_
  ·clear hin hcont ih hval hdm hml hmV hmV' hA hlt hXlt hXdec hVdec rX rV hVB hVpos hq hqm hmq hmv
   have hlen : (L ++ X ++ T).length = n + 2 + qn := hU
   have w0 := Aside0.mk (show wrap64 (((j + 1 : Nat) : Int) - 1 + ((n + 2 : Nat) : Int)) = ((j + (n + 2) : Nat) : Int) by rw [i64_id (by omega) (by omega)]; omega)
   have w1 := Aside0.mk (show wrap64 (((j + (n + 2) : Nat) : Int) - 1) = ((j + (n + 1) : Nat) : Int) by rw [i64_id (by omega) (by omega)]; omega)
   have w2 := Aside0.mk (show wrap64 (((j + (n + 2) : Nat) : Int) - 2) = ((j + n : Nat) : Int) by rw [i64_id (by omega) (by omega)]; omega)
   have w3 := Aside0.mk (show wrap64 (((n + 2 : Nat) : Int) - 1) = ((n + 1 : Nat) : Int) by rw [i64_id (by omega) (by omega)]; omega)
   have w4 := Aside0.mk (show wrap64 (((n + 2 : Nat) : Int) - 2) = (n : Int) by rw [i64_id (by omega) (by omega)]; omega)
   simp only [nat_Divide.l0]
   rw [if_pos (by omega), w0.out, if_pos (by omega), if_pos (by omega), w1.out, if_pos (by omega), if_pos (by omega), w2.out, if_pos (by omega), if_pos (by omega), w3.out, if_pos (by omega), if_pos (by omega), w4.out, if_pos (by omega), if_pos (by omega), p2, p1, p0, hv1e, hv0e]
   rw [show ((j + 1 : Nat) : Int) - 1 = (j : Int) by omega]
  ·refine Ev.bind hgev ?_
   rw [lL] at htk hin
   refine Ev.bind htk ?_
   exact hin
/-- quotient, rest and error -/
def divW (a b : Nat) : List Int × List Int × Int := if 2000 < (Num.wordsN a).length ∨ 2000 < (Num.wordsN b).length then ([], [], 2) else if b = 0 then ([], [], 1) else (Num.wordsN (a / b), Num.wordsN (a % b), 0)
theorem ev_some {α β : Type} {o : Option α} {x : α} {g : Nat → α → Option β} {r : β} (h : o = some x) (e : Ev (fun k => g k x) r) : Ev (fun k => o.bind (g k)) r := by
 subst h
 exact e
theorem div_main {t0 t1 : List Int} (o0 : Num.okW t0) (o1 : Num.okW t1) (n0 : Num.normed t0) (n1 : Num.normed t1) (h0 : t0.length ≤ 2000) (h1 : t1.length ≤ 2000) (h2 : 2 ≤ t1.length) (hle : Num.valN t1 ≤ Num.valN t0) {b : Int} (hb : b = rd t1 ((t1.length : Int) - 1)) :
  Ev (fun k => (bits_LeadingZeros32.f b).bind fun t559 => ((nat_moved.f k t0 t559).bind fun t560 => ((nat_moved.f k t1 t559).bind fun t563 => (if 0 ≤ (t1.length : Int) then (if (t1.length : Int) ≤ (t563.length : Int) then ((some (t563.take ((t1.length : Int) : Int).toNat : List Int)).bind fun y566 => (if 0 ≤ (wrap64 ((wrap64 ((t0.length : Int) - (y566.length : Int))) + 1)) then (if (wrap64 ((wrap64 ((t0.length : Int) - (y566.length : Int))) + 1) : Int).toNat ≤ 70368744177664 then ((some (List.replicate (wrap64 ((wrap64 ((t0.length : Int) - (y566.length : Int))) + 1) : Int).toNat 0 : List Int)).bind fun y570 => (nat_Divide.l0 k y570 t559 t560 y566 (y566.length : Int) (wrap64 ((y570.length : Int) - 1)))) else (none)) else (none))) else (none)) else (none)))))
   (Num.wordsN (Num.valN t0 / Num.valN t1), Num.wordsN (Num.valN t0 % Num.valN t1), (0 : Int)) := by
 obtain ⟨n, hn⟩ : ∃ n, t1.length = n + 2 := ⟨t1.length - 2, by omega⟩
 have hl10 : t1.length ≤ t0.length := by
  rcases Nat.lt_or_ge t0.length t1.length with h | h
  ·have := Num.lt_of_len o0 o1 n1 h; omega
  ·exact h
 have otop := rd_ok o1 (n + 1)
 have hb2 : b = rd t1 ((n + 1 : Nat) : Int) := by rw [hb]; congr 1; omega
 have hw := Num.bitsN_words o1 n1 (n + 1) hn
 rw [← rd_toNat] at hw
 have hbv := Num.bitsN_lt (Num.valN t1)
 have hge := Num.val_ge o1 n1 (n + 1) hn
 have hvp : 0 < Num.valN t1 := Nat.lt_of_lt_of_le (Nat.pow_pos (by decide)) hge
 have htop1 : Num.bitsN (rd t1 ((n + 1 : Nat) : Int)).toNat ≤ 32 := by
  have e1 := Num.bitsN_mono (show (rd t1 ((n + 1 : Nat) : Int)).toNat ≤ 4294967295 by omega)
  have e2 : Num.bitsN 4294967295 = 32 := Num.bitsN_eq (by decide) (by decide)
  omega
 have htop0 : 0 < Num.bitsN (rd t1 ((n + 1 : Nat) : Int)).toNat := by
  rcases Nat.eq_zero_or_pos (rd t1 ((n + 1 : Nat) : Int)).toNat with h | h
  ·exfalso
   have tw := top_word o1 (n := n + 1) (by omega)
   rw [h, Nat.mul_zero, Nat.add_zero] at tw
   omega
  ·exact Num.bitsN_pos h
 have hlz : bits_LeadingZeros32.f b = some ((32 - Num.bitsN (rd t1 ((n + 1 : Nat) : Int)).toNat : Nat) : Int) := by
  unfold bits_LeadingZeros32.f
  rw [hb2, if_pos (by omega), Num.bitLen_bitsN (by omega)]
  congr 1
  omega
 obtain ⟨s, hs⟩ : ∃ s, s = 32 - Num.bitsN (rd t1 ((n + 1 : Nat) : Int)).toNat := ⟨_, rfl⟩
 rw [← hs] at hlz
 have hs1 : s < 32 := by omega
 have hbits : Num.bitsN (Num.valN t1) + s = 32 * (n + 2) := by omega
 obtain ⟨U, oU, lU, vU, evU⟩ := ev_moved t0 o0 (by omega) s hs1
 obtain ⟨V1, oV1, lV1, vV1, evV⟩ := ev_moved t1 o1 (by omega) s hs1
 have hVlt : Num.valN V1 < 4294967296 ^ (n + 2) := by
  rw [vV1, pow_words, ← hbits, Nat.pow_add]
  exact Nat.mul_lt_mul_of_pos_right hbv (Nat.two_pow_pos s)
 have lV : (V1.take (n + 2)).length = n + 2 := by rw [List.length_take]; omega
 have vV : Num.valN (V1.take (n + 2)) = Num.valN t1 * 2 ^ s := by rw [val_take_of_lt hVlt, vV1]
 have oV := Num.okW_take oV1 (n + 2)
 obtain ⟨V, hVd⟩ : ∃ V, V = V1.take (n + 2) := ⟨_, rfl⟩
 rw [← hVd] at lV vV oV
 have hvtop : 0 < rd V ((n + 1 : Nat) : Int) := by
  have tw := top_word oV (n := n + 1) (by omega)
  have o := rd_ok oV (n + 1)
  rcases Nat.eq_zero_or_pos (rd V ((n + 1 : Nat) : Int)).toNat with h | h
  ·exfalso
   rw [h, Nat.mul_zero, Nat.add_zero, vV] at tw
   have : Num.valN t1 * 1 ≤ Num.valN t1 * 2 ^ s := Nat.mul_le_mul_left _ (Nat.two_pow_pos s)
   omega
  ·omega
 have hUd : Num.valN (U.drop (t0.length - (n + 2) + 1)) < Num.valN V := by
  rw [drop_words_val oU, vU, vV]
  have h3 : Num.valN t0 < 4294967296 ^ t0.length := Num.valN_lt o0
  rw [Nat.div_lt_iff_lt_mul (Nat.pow_pos (by decide))]
  have h4 : Num.valN t0 * 2 ^ s < 4294967296 ^ t0.length * 2 ^ s := Nat.mul_lt_mul_of_pos_right h3 (Nat.two_pow_pos s)
  have h5 : 4294967296 ^ t0.length = 4294967296 ^ (n + 1) * 4294967296 ^ (t0.length - (n + 2) + 1) := by rw [← Nat.pow_add]; congr 1; omega
  have h6 : 4294967296 ^ (n + 1) * (2 ^ s * 4294967296 ^ (t0.length - (n + 2) + 1)) ≤ Num.valN t1 * (2 ^ s * 4294967296 ^ (t0.length - (n + 2) + 1)) := Nat.mul_le_mul_right _ hge
  rw [h5] at h4
  rw [Nat.mul_assoc (Num.valN t1)]
  rw [Nat.mul_assoc, Nat.mul_comm (4294967296 ^ (t0.length - (n + 2) + 1)) (2 ^ s)] at h4
  exact Nat.lt_of_lt_of_le h4 h6
 have hmain := div_l0 oV lV (by omega) (s := s) (by omega) hvtop (t0.length - (n + 2) + 1) (by omega) (Num.valN t0 * 2 ^ s) (t0.length - (n + 2) + 1) (List.replicate (t0.length - (n + 2) + 1) 0) U (Nat.le_refl _) (List.length_replicate ..) (by omega) (okW_zeros _) oU (by omega) (by
   have : Num.valN (List.replicate (t0.length - (n + 2) + 1) 0) = 0 := by
    have := val_zeros (t0.length - (n + 2) + 1) []
    simpa [Num.valN] using this
   rw [this, Nat.zero_mul, Nat.zero_add, vU]) (fun i hi => by rw [rd_getD, List.getD_eq_getElem?_getD, List.getElem?_replicate, if_pos hi]; rfl) hUd
 rw [vV, Nat.mul_div_mul_right _ _ (Nat.two_pow_pos s), Nat.mul_mod_mul_right, Nat.mul_div_cancel _ (Nat.two_pow_pos s)] at hmain
 refine ev_some hlz (Ev.bind evU (Ev.bind evV ?_))
 have w0 := Aside0.mk (show wrap64 ((t0.length : Int) - ((n + 2 : Nat) : Int)) = ((t0.length - (n + 2) : Nat) : Int) by rw [i64_id (by omega) (by omega)]; omega)
 have w1 := Aside0.mk (show wrap64 (((t0.length - (n + 2) : Nat) : Int) + 1) = ((t0.length - (n + 2) + 1 : Nat) : Int) by rw [i64_id (by omega) (by omega)]; omega)
 have w2 := Aside0.mk (show wrap64 (((t0.length - (n + 2) + 1 : Nat) : Int) - 1) = ((t0.length - (n + 2) + 1 : Nat) : Int) - 1 from i64_id (by omega) (by omega))
 have c1 : 0 ≤ (t1.length : Int) := by omega
 have c2 : (t1.length : Int) ≤ (V1.length : Int) := by omega
 have c3 : ((t1.length : Int) : Int).toNat = n + 2 := by omega
 have c4 : 0 ≤ ((t0.length - (n + 2) + 1 : Nat) : Int) := by omega
 have c5 : t0.length - (n + 2) + 1 ≤ 70368744177664 := by omega
 refine Ev.congr (fun k => ?_) hmain
 rw [if_pos c1, if_pos c2, c3, ← hVd, Option.bind_some, lV, w0.out, w1.out, if_pos c4, Int.toNat_natCast, if_pos c5, Option.bind_some, List.length_replicate, w2.out]
theorem ev_div (l0 l1 : List Int) (o0 : Num.okW l0) (o1 : Num.okW l1) (h0 : l0.length ≤ 100000000) (h1 : l1.length ≤ 100000000) : Ev (fun k => nat_Divide.f k l0 l1) (divW (Num.valN l0) (Num.valN l1)) := by
 have e0 := Num.trim_words o0
 have e1 := Num.trim_words o1
 have ht0 := Num.okW_trim o0
 have ht1 := Num.okW_trim o1
 unfold nat_Divide.f divW
 rw [← e0, ← e1]
 refine Ev.bind (ev_large l0 (by omega)) ?_
 have big : Ev (fun k => nat_Divide.j0 k l0 l1 true) (([] : List Int), ([] : List Int), (2 : Int)) := by
  refine Ev.step (f := fun _ => some (([] : List Int), ([] : List Int), (2 : Int))) (fun k => ?_) (Ev.now _)
  simp only [nat_Divide.j0, if_true]
 by_cases c0 : 2000 < (Num.trimW l0).length
 ·simp only [decide_eq_true c0, if_true, if_pos (show 2000 < (Num.trimW l0).length ∨ 2000 < (Num.trimW l1).length from .inl c0)]
  exact big
 ·simp only [decide_eq_false c0, Bool.false_eq_true, if_false]
  refine Ev.bind (ev_large l1 (by omega)) ?_
  by_cases c1 : 2000 < (Num.trimW l1).length
  ·simp only [decide_eq_true c1, if_pos (show 2000 < (Num.trimW l0).length ∨ 2000 < (Num.trimW l1).length from .inr c1)]
   exact big
  ·rw [if_neg (show ¬ (2000 < (Num.trimW l0).length ∨ 2000 < (Num.trimW l1).length) by omega)]
   simp only [decide_eq_false c1]
   refine Ev.step (fun k => by simp only [nat_Divide.j0, Bool.false_eq_true, if_false]; rfl) ?_
   refine Ev.bind (ev_trim l0 (by omega)) (Ev.bind (ev_trim l1 (by omega)) ?_)
   have n0 := Num.normed_trim l0
   have n1 := Num.normed_trim l1
   rw [← Num.trimW_val l0, ← Num.trimW_val l1]
   clear e0 e1 h0 h1
   generalize Num.trimW l0 = t0 at *
   generalize Num.trimW l1 = t1 at *
   by_cases z : t1.length = 0
   ·have : t1 = [] := List.length_eq_zero_iff.1 z
    subst this
    refine Ev.congr (f := fun _ => some (([] : List Int), ([] : List Int), (1 : Int))) (fun k => by rw [if_pos (by simp)]) ?_
    rw [if_pos (show Num.valN [] = 0 from rfl)]
    exact Ev.now _
   ·have hv : 0 < Num.valN t1 := Num.val_pos ht1 n1 (by intro h; rw [h] at z; exact z rfl)
    rw [if_neg (show ¬ Num.valN t1 = 0 by omega)]
    refine Ev.congr (f := fun k => (nat_Compare.f k t0 t1).bind fun t540 => _) (fun k => by rw [if_neg (by omega)]) ?_
    refine Ev.bind (ev_cmp t0 t1 ht0 ht1 (by omega) (by omega)) ?_
    by_cases lt : Num.valN t0 < Num.valN t1
    ·refine Ev.congr (f := fun _ => some (([] : List Int), t0, (0 : Int))) (fun k => ?_) ?_
     ·rw [if_pos (Num.cmpN_neg.2 lt)]
      simp only [slices_Clone_uint32_uint32.f]
      rw [if_pos (by omega)]
      rfl
     ·rw [Nat.div_eq_of_lt lt, Nat.mod_eq_of_lt lt, Num.wordsN_zero, Num.wordsN_of ht0 n0]
      exact Ev.now _
    ·by_cases one : t1.length = 1
     ·have ox := rd_ok ht1 0
      have hval : Num.valN t1 = (rd t1 (0 : Int)).toNat := by
       obtain ⟨x, rfl⟩ := List.length_eq_one_iff.1 one
       simp [Num.valN, rd]
      have hd : 0 < rd t1 (0 : Int) ∧ rd t1 (0 : Int) < 4294967296 := by
       have : rd t1 ((0 : Nat) : Int) = rd t1 (0 : Int) := rfl
       omega
      obtain ⟨q1, q2⟩ := Num.shq_val hd.1 ht0
      have q3 := Num.shq_ok hd.1 ht0
      have q4 := Num.shq_length (rd t1 (0 : Int)) t0
      have q5 := Num.shq_rest hd.1 t0
      refine Ev.congr (f := fun k => (nat_short.f k t0 (rd t1 0)).bind fun bt545 => ((nat_trim.f k bt545.1).bind fun t549 => ((nat_trim.f k (([bt545.2] : List Int))).bind fun t555 => (some (t549, t555, (0 : Int)))))) (fun k => by rw [if_neg (fun h => lt (Num.cmpN_neg.1 h)), if_pos (by omega), if_pos (by omega)]) ?_
      refine Ev.bind (ev_short t0 ht0 _ hd (by omega)) (Ev.bind (ev_trim _ (by omega)) (Ev.bind (ev_trim _ (by simp)) ?_))
      rw [Num.trim_words q3, Num.trim_words (Num.okW_cons.2 ⟨⟨q5.1, by omega⟩, Num.okW_nil⟩), q1, hval]
      have : Num.valN [(Num.shq (rd t1 0) t0).2] = Num.valN t0 % (rd t1 (0 : Int)).toNat := by
       rw [q2]
       simp only [Num.valN, Int.toNat_natCast, Nat.mul_zero, Nat.add_zero]
      rw [this]
      exact Ev.now _
     ·refine Ev.congr (fun k => ?_) (div_main ht0 ht1 n0 n1 (by omega) (by omega) (by omega) (by omega) rfl)
      rw [if_neg (fun h => lt (Num.cmpN_neg.1 h)), if_neg (by omega), i64_id (x := (t1.length : Int) - 1) (by omega) (by omega), if_pos (by omega), if_pos (by omega)]
theorem set_part {L X T : List Int} {t : Nat} {v : Int} (h : t < X.length) : (L ++ X ++ T).set (L.length + t) v = L ++ X.set t v ++ T := by
 rw [List.append_assoc, List.set_append_right _ _ (by omega), Nat.add_sub_cancel_left, List.set_append_left _ _ h, List.append_assoc]
theorem mul_carry {P vd vx vb p y x c : Nat} (h : vd + P * c = vx + p * vb) : vd + P * ((c + (p * y + x)) % 4294967296) + P * 4294967296 * ((c + (p * y + x)) / 4294967296) = (vx + P * x) + p * (vb + P * y) := by
 have e : P * ((c + (p * y + x)) % 4294967296) + P * 4294967296 * ((c + (p * y + x)) / 4294967296) = P * (c + (p * y + x)) := by
  rw [Nat.mul_assoc, ← Nat.mul_add, Nat.mod_add_div]
 rw [Nat.mul_add, Nat.mul_add P, Nat.mul_left_comm P p y] at e
 rw [Nat.mul_add p]
 omega
theorem mul_l1v {a b L X T : List Int} (ob : Num.okW b) (oX : Num.okW X) (hX : X.length = b.length + 1) (hX0 : rd X (b.length : Int) = 0) (hb : b.length ≤ 1000000) (hL : L.length ≤ 1000000) {p : Nat} (hp : p < 4294967296) (d : Nat) :
  ∀ (j : Nat) (dn : List Int) (c : Nat), j + d = b.length → dn.length = j → Num.okW dn → c < 4294967296 →
   Num.valN dn + 4294967296 ^ j * c = Num.valN (X.take j) + p * Num.valN (b.take j) →
   ∃ X' : List Int, Num.okW X' ∧ X'.length = b.length + 1 ∧ Num.valN X' = Num.valN X + p * Num.valN b ∧
    ∀ R : List Int × Int, Ev (fun k => nat_Mul.l0 k b (L ++ X' ++ T) a (a.length : Int) ((L.length + 1 : Nat) : Int)) R →
     Ev (fun k => nat_Mul.l1 k b (L ++ (dn ++ X.drop j) ++ T) (L.length : Int) (p : Int) (c : Int) a (a.length : Int) (L.length : Int) b (b.length : Int) (j : Int)) R := by
 induction d with
 | zero =>
  intro j dn c hj hd od hc hv
  have hjb : j = b.length := by omega
  have e2 : (dn ++ X.drop j).set b.length (c : Int) = dn ++ [(c : Int)] := by
   rw [← hjb, List.set_append_right _ _ (by omega), hd, Nat.sub_self, List.drop_eq_getElem_cons (by omega), List.set_cons_zero, List.drop_of_length_le (by omega)]
  have htop := (top_word oX (n := b.length) hX).1
  rw [hX0, Int.toNat_zero, Nat.mul_zero, Nat.add_zero] at htop
  refine ⟨dn ++ [(c : Int)], Num.okW_snoc od (by omega) (by omega), by rw [List.length_append, hd]; simp; omega, ?_, ?_⟩
  ·rw [Num.val_snoc, hd, Int.toNat_natCast, hv, htop, ← hjb, List.take_of_length_le (l := b) (by omega)]
  ·intro R hR
   refine Ev.step (fun k => ?_) hR
   have hlen : (L.length : Int) + (b.length : Int) < ((L ++ (dn ++ X.drop j) ++ T).length : Int) := by simp only [List.length_append, List.length_drop]; omega
   simp only [nat_Mul.l1]
   rw [if_neg (by omega), i64_id (x := (L.length : Int) + (b.length : Int)) (by omega) (by omega), if_pos (by omega), if_pos hlen, i64_id (x := (L.length : Int) + 1) (by omega) (by omega),
    show ((L.length : Int) + (b.length : Int)).toNat = L.length + b.length by omega, set_part (by simp only [List.length_append, List.length_drop]; omega), show ((c : Int)) % 4294967296 = (c : Int) by omega, e2]
   rfl
 | succ d ih =>
  intro j dn c hj hd od hc hv
  have ox := rd_ok oX j
  have oy := rd_ok ob j
  obtain ⟨x, hx⟩ := Int.eq_ofNat_of_zero_le ox.1
  obtain ⟨y, hy⟩ := Int.eq_ofNat_of_zero_le oy.1
  have hpy : p * y ≤ 4294967295 * 4294967295 := Nat.mul_le_mul (by omega) (by omega)
  have e1 : rd (dn ++ X.drop j) (j : Int) = (x : Int) := by
   rw [← hx, rd_getD, rd_getD, List.getD_eq_getElem?_getD, List.getD_eq_getElem?_getD, List.getElem?_append_right (by omega), hd, Nat.sub_self, List.getElem?_drop, Nat.add_zero]
  have e2 : ∀ z : Int, (dn ++ X.drop j).set j z = (dn ++ [z]) ++ X.drop (j + 1) := by
   intro z
   rw [List.set_append_right _ _ (by omega), hd, Nat.sub_self, List.drop_eq_getElem_cons (by omega), List.set_cons_zero]
   simp
  have hwl : (dn ++ X.drop j).length = b.length + 1 := by rw [List.length_append, List.length_drop]; omega
  have e3 : rd (L ++ (dn ++ X.drop j) ++ T) ((L.length : Int) + (j : Int)) = (x : Int) := by
   rw [← e1]
   have := rd_part (L := L) (X := dn ++ X.drop j) (T := T) (i := j) (by omega)
   rw [← this]
   congr 1
  have eT : IntKind.u64.wrap ((c : Int) + IntKind.u64.wrap (IntKind.u64.wrap (IntKind.u64.wrap (p : Int) * IntKind.u64.wrap (y : Int)) + IntKind.u64.wrap (x : Int))) = ((c + (p * y + x) : Nat) : Int) := by
   rw [u64_id (x := (p : Int)) (by omega) (by omega), u64_id (x := (y : Int)) (by omega) (by omega), u64_id (x := (x : Int)) (by omega) (by omega), ← Int.natCast_mul, u64_id (x := ((p * y : Nat) : Int)) (by omega) (by omega), ← Int.natCast_add, u64_id (x := ((p * y + x : Nat) : Int)) (by omega) (by omega), ← Int.natCast_add, u64_id (by omega) (by omega)]
  have hnext := mul_carry (y := y) (x := x) hv
  obtain ⟨t, ht⟩ : ∃ t, t = c + (p * y + x) := ⟨_, rfl⟩
  rw [← ht] at eT hnext
  have htl : t < 18446744073709551616 := by omega
  obtain ⟨X', o', l', v', hev⟩ := ih (j + 1) (dn ++ [((t % 4294967296 : Nat) : Int)]) (t / 4294967296) (by omega) (by simp [hd]) (Num.okW_snoc od (by omega) (by omega)) (by omega) (by
   rw [Num.val_snoc, hd, Int.toNat_natCast, Num.val_take_next, Num.val_take_next, ← rd_toNat, ← rd_toNat, hx, hy, Int.toNat_natCast, Int.toNat_natCast, Nat.pow_succ]
   exact hnext)
  refine ⟨X', o', l', v', fun R hR => Ev.step (fun k => ?_) (hev R hR)⟩
  have hlen : (L.length : Int) + (j : Int) < ((L ++ (dn ++ X.drop j) ++ T).length : Int) := by rw [List.length_append, List.length_append, hwl]; omega
  have Et := Aside0.mk eT
  have E3 := Aside0.mk e3
  clear eT e3 hnext hv v' hev
  simp only [nat_Mul.l1]
  rw [if_pos (by omega), if_pos (by omega), if_pos (by omega), i64_id (x := (L.length : Int) + (j : Int)) (by omega) (by omega), if_pos (by omega), if_pos hlen, i64_id (x := (j : Int) + 1) (by omega) (by omega), hy, E3.out, Et.out,
   show ((L.length : Int) + (j : Int)).toNat = L.length + j by omega, set_part (by omega), show ((t : Nat) : Int) % 4294967296 = ((t % 4294967296 : Nat) : Int) by omega, e2, show ((t : Nat) : Int) / 4294967296 = ((t / 4294967296 : Nat) : Int) by omega]
  rfl
theorem mul_l0v {a b : List Int} (oa : Num.okW a) (ob : Num.okW b) (ha : a.length ≤ 2000) (hb : b.length ≤ 2000) (d : Nat) : ∀ (i : Nat) (x6 : List Int), i + d = a.length → x6.length = a.length + b.length → Num.okW x6 →
  Num.valN x6 = Num.valN (a.take i) * Num.valN b → (∀ k : Nat, i + b.length ≤ k → rd x6 (k : Int) = 0) →
  Ev (fun k => nat_Mul.l0 k b x6 a (a.length : Int) (i : Int)) (fitV (Num.valN a * Num.valN b)) := by
 induction d with
 | zero =>
  intro i x6 hi hl o hv _
  refine Ev.step (f := fun k => (nat_fits.f k x6).bind fun bt => some (bt.1, bt.2)) (fun k => ?_) ?_
  ·simp only [nat_Mul.l0]
   rw [if_neg (by omega)]
  ·have := ev_fits x6 (by omega)
   rw [fitsW_V o, hv, List.take_of_length_le (by omega)] at this
   exact Ev.bind this (Ev.now _)
 | succ d ih =>
  intro i x6 hi hl o hv hz
  have op := rd_ok oa i
  obtain ⟨p, hp⟩ := Int.eq_ofNat_of_zero_le op.1
  have hUe := three (U := x6) (j := i) (h := i + b.length + 1) (by omega)
  have oX : Num.okW ((x6.take (i + b.length + 1)).drop i) := Num.okW_drop (Num.okW_take o _) _
  have lX : ((x6.take (i + b.length + 1)).drop i).length = b.length + 1 := by rw [List.length_drop, List.length_take]; omega
  have lL : (x6.take i).length = i := by rw [List.length_take]; omega
  have oL : Num.okW (x6.take i) := Num.okW_take o _
  have oT : Num.okW (x6.drop (i + b.length + 1)) := Num.okW_drop o _
  generalize x6.drop (i + b.length + 1) = T at *
  generalize (x6.take (i + b.length + 1)).drop i = X at *
  generalize x6.take i = L at *
  subst hUe
  have hX0 : rd X (b.length : Int) = 0 := by
   have h1 := rd_part (L := L) (X := X) (T := T) (i := b.length) (by omega)
   rw [← h1, lL]
   exact hz _ (Nat.le_refl _)
  obtain ⟨X', o', l', v', hev⟩ := mul_l1v (a := a) (L := L) (T := T) ob oX lX hX0 (by omega) (by omega) (p := p) (by omega) b.length 0 [] 0 (by omega) rfl Num.okW_nil (by decide) (by simp [Num.valN])
  rw [lL] at hev
  have hnext := ih (i + 1) (L ++ X' ++ T) (by omega) (by simp only [List.length_append] at hl ⊢; omega) (Num.okW_append.2 ⟨Num.okW_append.2 ⟨oL, o'⟩, oT⟩) (by
   rw [three_val, v', l', lL, Num.val_take_next, ← rd_toNat, hp, Int.toNat_natCast, Nat.add_mul, ← hv, three_val, lX, lL]
   rw [Nat.mul_add, Nat.mul_assoc (4294967296 ^ i)]
   omega) (fun k hk => by
   have h0 := hz k (by omega)
   have hk2 : ∀ Y : List Int, Y.length = b.length + 1 → rd (L ++ Y ++ T) (k : Int) = rd T ((k - (i + b.length + 1) : Nat) : Int) := by
    intro Y hY
    rw [rd_getD, rd_getD, List.getD_eq_getElem?_getD, List.getD_eq_getElem?_getD, List.getElem?_append_right (by rw [List.length_append]; omega), List.length_append, lL, hY]
    rfl
   rw [hk2 X' l', ← hk2 X lX]
   exact h0)
  have h3 := hev _ hnext
  refine Ev.step (fun k => ?_) h3
  simp only [nat_Mul.l0]
  rw [if_pos (by omega), if_pos (by omega), if_pos (by omega), hp, List.drop_zero, List.nil_append]
  rfl
/-- a product, or the refusal of what is large -/
def mulW (a b : Nat) : List Int × Int := if 2000 < (Num.wordsN a).length ∨ 2000 < (Num.wordsN b).length then ([], 2) else fitV (a * b)
theorem ev_mul (l0 l1 : List Int) (o0 : Num.okW l0) (o1 : Num.okW l1) (h0 : l0.length ≤ 100000000) (h1 : l1.length ≤ 100000000) : Ev (fun k => nat_Mul.f k l0 l1) (mulW (Num.valN l0) (Num.valN l1)) := by
 have e0 := Num.trim_words o0
 have e1 := Num.trim_words o1
 unfold nat_Mul.f mulW
 rw [← e0, ← e1]
 refine Ev.bind (ev_large l0 (by omega)) ?_
 have big : Ev (fun k => nat_Mul.j0 k l0 l1 true) (([] : List Int), (2 : Int)) := by
  refine Ev.step (f := fun _ => some (([] : List Int), (2 : Int))) (fun k => ?_) (Ev.now _)
  simp only [nat_Mul.j0, if_true]
 by_cases c0 : 2000 < (Num.trimW l0).length
 ·simp only [decide_eq_true c0, if_true, if_pos (show 2000 < (Num.trimW l0).length ∨ 2000 < (Num.trimW l1).length from .inl c0)]
  exact big
 ·simp only [decide_eq_false c0, Bool.false_eq_true, if_false]
  refine Ev.bind (ev_large l1 (by omega)) ?_
  by_cases c1 : 2000 < (Num.trimW l1).length
  ·simp only [decide_eq_true c1, if_pos (show 2000 < (Num.trimW l0).length ∨ 2000 < (Num.trimW l1).length from .inr c1)]
   exact big
  ·rw [if_neg (show ¬ (2000 < (Num.trimW l0).length ∨ 2000 < (Num.trimW l1).length) by omega)]
   simp only [decide_eq_false c1]
   refine Ev.step (f := fun k => (nat_trim.f k l0).bind fun t192 => ((nat_trim.f k l1).bind fun t195 => (if 0 ≤ (wrap64 ((t192.length : Int) + (t195.length : Int))) then (if (wrap64 ((t192.length : Int) + (t195.length : Int)) : Int).toNat ≤ 70368744177664 then (nat_Mul.l0 k t195 (List.replicate (wrap64 ((t192.length : Int) + (t195.length : Int)) : Int).toNat 0) t192 (t192.length : Int) 0) else (none)) else (none)))) (fun k => by simp only [nat_Mul.j0, Bool.false_eq_true, if_false]) ?_
   refine Ev.bind (ev_trim l0 (by omega)) (Ev.bind (ev_trim l1 (by omega)) ?_)
   have hz : Num.valN (List.replicate ((Num.trimW l0).length + (Num.trimW l1).length) 0) = 0 := by
    have := val_zeros ((Num.trimW l0).length + (Num.trimW l1).length) []
    simpa [Num.valN] using this
   have h := mul_l0v (Num.okW_trim o0) (Num.okW_trim o1) (by omega) (by omega) (Num.trimW l0).length 0 (List.replicate ((Num.trimW l0).length + (Num.trimW l1).length) 0) (by omega) (List.length_replicate ..) (okW_zeros _) (by rw [hz]; simp [Num.valN]) (fun k _ => by
    rw [rd_getD, List.getD_eq_getElem?_getD, List.getElem?_replicate]
    split <;> rfl)
   rw [Num.trimW_val, Num.trimW_val] at h
   have ew : wrap64 (((Num.trimW l0).length : Int) + ((Num.trimW l1).length : Int)) = (((Num.trimW l0).length + (Num.trimW l1).length : Nat) : Int) := by rw [i64_id (by omega) (by omega)]; omega
   have c2 : (0 : Int) ≤ (((Num.trimW l0).length + (Num.trimW l1).length : Nat) : Int) := by omega
   have c3 : (Num.trimW l0).length + (Num.trimW l1).length ≤ 70368744177664 := by omega
   refine Ev.congr (fun k => ?_) h
   rw [ew, if_pos c2, Int.toNat_natCast, if_pos c3]
   rfl
theorem dg9_chars (n : Int) (h0 : 0 ≤ n) : ∀ c ∈ Num.dg9 n, 48 ≤ c.toNat ∧ c.toNat ≤ 57 := by
 intro c hc
 unfold Num.dg9 at hc
 obtain ⟨j, _, rfl⟩ := List.mem_map.1 hc
 have h1 : 0 ≤ n / 10 ^ (8 - j) := Int.ediv_nonneg h0 (Int.pow_nonneg (by decide))
 generalize n / 10 ^ (8 - j) = z at h1 ⊢
 have h2 : (48 + z % 10).toNat < 256 := by omega
 rw [UInt8.toNat_ofNat_of_lt' h2]
 omega
theorem digit_char (z k : Nat) : (UInt8.ofNat (48 + (z : Int) / 10 ^ k % 10).toNat).toNat - 48 = z / 10 ^ k % 10 := by
 have e : (z : Int) / 10 ^ k = ((z / 10 ^ k : Nat) : Int) := by simp
 rw [e]
 generalize z / 10 ^ k = y
 have h2 : (48 + (y : Int) % 10).toNat < 256 := by omega
 rw [UInt8.toNat_ofNat_of_lt' h2]
 omega
theorem decL_digits (z : Nat) : ∀ (m a : Nat), Num.decL a ((List.range m).map fun j => UInt8.ofNat (48 + (z : Int) / 10 ^ (m - 1 - j) % 10).toNat) = a * 10 ^ m + z % 10 ^ m := by
 intro m
 induction m with
 | zero =>
  intro a
  show a = a * 10 ^ 0 + z % 10 ^ 0
  rw [Nat.pow_zero, Nat.mod_one]
  omega
 | succ m ih =>
  intro a
  rw [List.range_succ_eq_map, List.map_cons, List.map_map]
  have e : ((fun j => UInt8.ofNat (48 + (z : Int) / 10 ^ (m + 1 - 1 - j) % 10).toNat) ∘ Nat.succ) = fun j => UInt8.ofNat (48 + (z : Int) / 10 ^ (m - 1 - j) % 10).toNat := by
   funext j
   show UInt8.ofNat (48 + (z : Int) / 10 ^ (m + 1 - 1 - (j + 1)) % 10).toNat = _
   rw [show m + 1 - 1 - (j + 1) = m - 1 - j by omega]
  rw [e]
  show Num.decL (a * 10 + ((UInt8.ofNat (48 + (z : Int) / 10 ^ (m + 1 - 1 - 0) % 10).toNat).toNat - 48)) _ = _
  rw [ih, show m + 1 - 1 - 0 = m by omega, digit_char, Nat.mod_pow_succ, Nat.pow_succ, Nat.add_mul, Nat.mul_assoc, Nat.mul_comm 10 (10 ^ m), Nat.mul_comm (z / 10 ^ m % 10)]
  omega
theorem decL_dg9 (a z : Nat) (hz : z < 1000000000) : Num.decL a (Num.dg9 (z : Int)) = a * 1000000000 + z := by
 have h := decL_digits z 9 a
 rw [Nat.mod_eq_of_lt (show z < 10 ^ 9 from hz)] at h
 exact h
theorem decL_pcs (v : Nat) : Num.decL 0 ((Num.pcs v).reverse.flatMap Num.dg9) = v := by
 induction v using Nat.strongRecOn with
 | _ v ih =>
  rcases Nat.eq_zero_or_pos v with h | h
  ·subst h; rw [Num.pcs_zero]; rfl
  ·rw [Num.pcs_pos h, List.reverse_cons, List.flatMap_append, Num.decL_append, ih _ (Nat.div_lt_self h (by decide))]
   simp only [List.flatMap_cons, List.flatMap_nil, List.append_nil]
   rw [decL_dg9 _ _ (Nat.mod_lt _ (by decide))]
   omega
theorem decL_drop48 (l : List UInt8) : Num.decL 0 (l.dropWhile (· == 48)) = Num.decL 0 l := by
 induction l with
 | nil => rfl
 | cons c cs ih =>
  rw [List.dropWhile_cons]
  by_cases h : c == 48
  ·rw [if_pos h, ih]
   have : c = 48 := by simpa using h
   subst this
   rfl
  ·rw [if_neg h]
theorem textN_dec (v : Nat) : Num.decL 0 (Num.textN v) = v := by
 unfold Num.textN
 by_cases h : v = 0
 ·rw [if_pos h, h]; rfl
 ·rw [if_neg h, decL_drop48, decL_pcs]
theorem textN_digs (v : Nat) : Num.digs (Num.textN v) = true := by
 unfold Num.digs
 rw [List.all_eq_true]
 intro c hc
 have : 48 ≤ c.toNat ∧ c.toNat ≤ 57 := by
  unfold Num.textN at hc
  by_cases h : v = 0
  ·rw [if_pos h] at hc
   have : c = 48 := by simpa using hc
   subst this
   decide
  ·rw [if_neg h] at hc
   have h1 := (List.dropWhile_sublist _).subset hc
   obtain ⟨z, hz, hc2⟩ := List.mem_flatMap.1 h1
   exact dg9_chars z (Num.pcs_range v z (List.mem_reverse.1 hz)).1 c hc2
 simp [this.1, this.2]
theorem dg9_len (z : Int) : (Num.dg9 z).length = 9 := by unfold Num.dg9; simp
theorem textN_len (v m : Nat) (h : v < 65536 ^ m) : (Num.textN v).length ≤ 9 * m + 1 := by
 unfold Num.textN
 by_cases h0 : v = 0
 ·rw [if_pos h0]; simp
 ·rw [if_neg h0]
  have h1 := (List.dropWhile_sublist (· == (48 : UInt8)) (l := (Num.pcs v).reverse.flatMap Num.dg9)).length_le
  have h2 : ((Num.pcs v).reverse.flatMap Num.dg9).length = 9 * (Num.pcs v).length := by
   have : ∀ l : List Int, (l.flatMap Num.dg9).length = 9 * l.length := by
    intro l
    induction l with
    | nil => rfl
    | cons x xs ih => rw [List.flatMap_cons, List.length_append, ih, dg9_len, List.length_cons]; omega
   rw [this, List.length_reverse]
  have h3 := Num.pcs_len m v h
  omega
theorem textN_ne (v : Nat) : Num.textN v ≠ [] := by
 intro h
 have h1 := textN_dec v
 rw [h] at h1
 have : v = 0 := h1.symm
 subst this
 exact absurd h (by decide)
end Go.Proofs.YtdoeigngpemcgaaGreatDoor.Pure
namespace Go.Proofs.YtdoeigngpemcgaaGreatDoor.natBack
open Go.ChangeShapes Go.WideShapes Go.ChangeAt Go.RowKit
open Go.ChangeMaps (open_string shut_string)
set_option linter.unusedVariables false
end Go.Proofs.YtdoeigngpemcgaaGreatDoor.natBack
namespace Go.Proofs.YtdoeigngpemcgaaGreatDoor
end Go.Proofs.YtdoeigngpemcgaaGreatDoor
namespace Go.Proofs.YtdoeigngpemcgaaGreatDoor.Dec
open Go.RowKit Go.Proofs.YtdoeigngpemcgaaGreatDoor.PDec Go.Proofs.YtdoeigngpemcgaaGreatDoor.Pure Go.Proofs.YtdoeigngpemcgaaGreatDoorW.PrintWords Go.Proofs.YtdoeigngpemcgaaGreatDoorW.PrintLast Go.Proofs.YtdoeigngpemcgaaGreatDoorW.PrintMore
attribute [local go_sem] max2_int min2_int max_two min_two max_three min_three max_four min_four
/-- the upper and the lower word -/
def hiW (M : Nat) : Int := ((M / 18446744073709551616 : Nat) : Int)
def loW (M : Nat) : Int := ((M % 18446744073709551616 : Nat) : Int)
theorem shl64 (a n : Nat) (hn : n ≤ 64) : shl .u64 (a : Int) (n : Int) = ((a * 2 ^ n % 18446744073709551616 : Nat) : Int) := by
 unfold shl
 rw [Int.toNat_natCast, show min n IntKind.u64.bits = n from Nat.min_eq_left hn]
 rw [IntKind.wrap_u64, Int.natCast_emod, Int.natCast_mul, Int.natCast_pow]
 rfl
theorem shr64 (a n : Nat) (hn : n ≤ 64) : shr .u64 (a : Int) (n : Int) = ((a / 2 ^ n : Nat) : Int) := by
 unfold shr
 rw [Int.toNat_natCast, show min n IntKind.u64.bits = n from Nat.min_eq_left hn]
 push_cast
 rfl
theorem or64_zero (a b : Nat) (ha : a < 18446744073709551616) (hb : b < 18446744073709551616) : bits .or .u64 (a : Int) (b : Int) = 0 ↔ a = 0 ∧ b = 0 := by
 rw [u64_or_nat a b ha hb]
 constructor
 ·intro h
  have h1 : a ||| b = 0 := by omega
  exact Nat.or_eq_zero_iff.1 h1
 ·rintro ⟨rfl, rfl⟩; rfl
theorem hi_lt {M : Nat} (hM : M < 2 ^ 128) : M / 18446744073709551616 < 18446744073709551616 := by
 rw [Nat.div_lt_iff_lt_mul (by decide)]
 exact hM
theorem lo_lt (M : Nat) : M % 18446744073709551616 < 18446744073709551616 := Nat.mod_lt _ (by decide)
/-- bits shifted out at the top: none, if the lower part is empty -/
theorem top_lost (x n d : Nat) (h : n + d = 64) (_hx : x < 18446744073709551616) : x * 2 ^ d % 18446744073709551616 = 0 ↔ x % 2 ^ n = 0 := by
 rw [show (18446744073709551616 : Nat) = 2 ^ n * 2 ^ d by rw [← Nat.pow_add, h], Nat.mul_mod_mul_right]
 constructor
 ·intro e
  rcases Nat.mul_eq_zero.1 e with e | e
  ·exact e
  ·exact absurd e (Nat.ne_of_gt (Nat.two_pow_pos d))
 ·intro e; rw [e]; simp
theorem right_f (M n : Nat) (hM : M < 2 ^ 128) (hn : n ≤ 1000000) : soft_right.f (hiW M) (loW M) (n : Int) = some (hiW (M / 2 ^ n), loW (M / 2 ^ n), decide (M % 2 ^ n ≠ 0)) := by
 have h1 := hi_lt hM
 have h2 := lo_lt M
 have hd := Nat.div_add_mod M 18446744073709551616
 unfold soft_right.f hiW loW
 by_cases c1 : 128 ≤ n
 ·rw [if_pos (by omega)]
  have hz : M < 2 ^ n := Nat.lt_of_lt_of_le hM (Nat.pow_le_pow_right (by decide) c1)
  rw [Nat.div_eq_of_lt hz, Nat.mod_eq_of_lt hz]
  have : (bits .or .u64 ((M / 18446744073709551616 : Nat) : Int) ((M % 18446744073709551616 : Nat) : Int) != 0) = decide (M ≠ 0) := by
   rw [Bool.eq_iff_iff, bne_iff_ne, decide_eq_true_iff, Ne, or64_zero _ _ h1 h2]
   omega
  rw [this]
  simp
 ·rw [if_neg (by omega)]
  by_cases c2 : 64 ≤ n
  ·rw [if_pos (by omega)]
   obtain ⟨t, rfl⟩ : ∃ t, n = 64 + t := ⟨n - 64, by omega⟩
   have e1 : wrap64 (((64 + t : Nat) : Int) - 64) = (t : Int) := by rw [i64_id (by omega) (by omega)]; omega
   have e2 : wrap64 (128 - ((64 + t : Nat) : Int)) = ((64 - t : Nat) : Int) := by rw [i64_id (by omega) (by omega)]; omega
   have hq : M / 2 ^ (64 + t) = M / 18446744073709551616 / 2 ^ t := by rw [Nat.pow_add, ← Nat.div_div_eq_div_mul]
   have hm : M % 2 ^ (64 + t) = 18446744073709551616 * (M / 18446744073709551616 % 2 ^ t) + M % 18446744073709551616 := by
    rw [Nat.pow_add, Nat.mod_mul]
    exact Nat.add_comm _ _
   have hl : M / 18446744073709551616 / 2 ^ t < 18446744073709551616 := Nat.lt_of_le_of_lt (Nat.div_le_self _ _) h1
   rw [e1, e2, if_pos (by omega), shr64 _ _ (by omega), hq, Nat.div_eq_of_lt hl, Nat.mod_eq_of_lt hl]
   by_cases c3 : M % 18446744073709551616 = 0
   ·rw [if_pos (by omega), if_pos (by omega), shl64 _ _ (by omega)]
    by_cases c4 : M / 18446744073709551616 % 2 ^ t = 0
    ·rw [if_pos (by rw [(top_lost _ t (64 - t) (by omega) h1).2 c4]; rfl), hm, c3, c4]
     simp
    ·have ht : t ≠ 0 := by rintro rfl; exact c4 (by rw [Nat.pow_zero, Nat.mod_one])
     rw [if_neg (fun h => c4 ((top_lost _ t (64 - t) (by omega) h1).1 (by omega))), hm, c3]
     have : (decide (((64 + t : Nat) : Int) > 64)) = true := decide_eq_true (by omega)
     rw [this]
     have h3 : decide (18446744073709551616 * (M / 18446744073709551616 % 2 ^ t) + 0 ≠ 0) = true := decide_eq_true (by omega)
     rw [h3]
     rfl
   ·rw [if_neg (by omega)]
    have h3 : decide (M % 2 ^ (64 + t) ≠ 0) = true := decide_eq_true (by omega)
    rw [h3]
    rfl
  ·rw [if_neg (by omega)]
   by_cases c3 : n = 0
   ·subst c3
    rw [if_pos (by omega), Nat.pow_zero, Nat.div_one, Nat.mod_one]
    rfl
   ·rw [if_neg (by omega), if_pos (by omega)]
    have e1 : wrap64 (64 - (n : Int)) = ((64 - n : Nat) : Int) := by rw [i64_id (by omega) (by omega)]; omega
    rw [e1, if_pos (by omega), shr64 _ _ (by omega), shr64 _ _ (by omega), shl64 _ _ (by omega), shl64 _ _ (by omega)]
    have hp : (2 : Nat) ^ 64 = 2 ^ n * 2 ^ (64 - n) := by rw [← Nat.pow_add, show n + (64 - n) = 64 by omega]
    have hq : M / 2 ^ n / 18446744073709551616 = M / 18446744073709551616 / 2 ^ n := by rw [Nat.div_div_eq_div_mul, Nat.div_div_eq_div_mul, Nat.mul_comm]
    have hlow : M % 18446744073709551616 / 2 ^ n < 2 ^ (64 - n) := by
     rw [Nat.div_lt_iff_lt_mul (Nat.two_pow_pos n), Nat.mul_comm, ← hp]
     exact h2
    have hsum : M / 2 ^ n = M / 18446744073709551616 * 2 ^ (64 - n) + M % 18446744073709551616 / 2 ^ n := by
     have e : M = M % 18446744073709551616 + (M / 18446744073709551616 * 2 ^ (64 - n)) * 2 ^ n := by
      rw [Nat.mul_assoc, Nat.mul_comm (2 ^ (64 - n)), ← hp]
      omega
     have e' : (M % 18446744073709551616 + (M / 18446744073709551616 * 2 ^ (64 - n)) * 2 ^ n) / 2 ^ n = M % 18446744073709551616 / 2 ^ n + M / 18446744073709551616 * 2 ^ (64 - n) := Nat.add_mul_div_right _ _ (Nat.two_pow_pos n)
     rw [← e] at e'
     omega
    have hmod : M % 2 ^ n = M % 18446744073709551616 % 2 ^ n := by
     rw [show (18446744073709551616 : Nat) = 2 ^ n * 2 ^ (64 - n) from hp, Nat.mod_mul_right_mod]
    have hdiv : 2 ^ (64 - n) ∣ 18446744073709551616 := ⟨2 ^ n, by rw [Nat.mul_comm]; exact hp⟩
    have hz : (M / 18446744073709551616 * 2 ^ (64 - n) % 18446744073709551616) % 2 ^ (64 - n) = 0 := by
     rw [Nat.mod_mod_of_dvd _ hdiv, Nat.mul_mod_left]
    have hlo : M / 2 ^ n % 18446744073709551616 = (M / 18446744073709551616 * 2 ^ (64 - n) % 18446744073709551616) + M % 18446744073709551616 / 2 ^ n := by
     rw [hsum, Nat.add_mod, Nat.mod_eq_of_lt (a := M % 18446744073709551616 / 2 ^ n) (Nat.lt_of_le_of_lt (Nat.div_le_self _ _) h2)]
     refine Nat.mod_eq_of_lt ?_
     obtain ⟨x, hx⟩ : ∃ x, M / 18446744073709551616 * 2 ^ (64 - n) % 18446744073709551616 = 2 ^ (64 - n) * x := ⟨_, (Nat.mul_div_cancel' (Nat.dvd_of_mod_eq_zero hz)).symm⟩
     have hx2 : 2 ^ (64 - n) * x < 2 ^ (64 - n) * 2 ^ n := by
      rw [← hx, Nat.mul_comm _ (2 ^ n), ← hp]
      exact lo_lt _
     have hx3 : x < 2 ^ n := Nat.lt_of_mul_lt_mul_left hx2
     have hx4 : 2 ^ (64 - n) * (x + 1) ≤ 2 ^ (64 - n) * 2 ^ n := Nat.mul_le_mul_left _ hx3
     rw [Nat.mul_add, Nat.mul_one, Nat.mul_comm _ (2 ^ n), ← hp] at hx4
     rw [hx]
     have : (2 : Nat) ^ 64 = 18446744073709551616 := rfl
     omega
    have hor : bits .or .u64 ((M % 18446744073709551616 / 2 ^ n : Nat) : Int) ((M / 18446744073709551616 * 2 ^ (64 - n) % 18446744073709551616 : Nat) : Int) = ((M / 2 ^ n % 18446744073709551616 : Nat) : Int) := by
     rw [u64_or_nat _ _ (Nat.lt_of_le_of_lt (Nat.div_le_self _ _) h2) (lo_lt _), Nat.or_comm, nat_join (64 - n) _ _ hz hlow, hlo]
    have hbo : (((M % 18446744073709551616 * 2 ^ (64 - n) % 18446744073709551616 : Nat) : Int) != 0) = decide (M % 2 ^ n ≠ 0) := by
     rw [Bool.eq_iff_iff, bne_iff_ne, decide_eq_true_iff, hmod, Ne, Ne, ← top_lost (M % 18446744073709551616) n (64 - n) (by omega) h2]
     omega
    rw [hor, hbo, hq]
theorem length_f (M : Nat) (hM : M < 2 ^ 128) : soft_length.f 0 (hiW M) (loW M) = some ((Num.bitsN M : Nat) : Int) := by
 have h1 := hi_lt hM
 have h2 := lo_lt M
 have hd := Nat.div_add_mod M 18446744073709551616
 unfold soft_length.f bits_Len64.f hiW loW
 by_cases c : M / 18446744073709551616 = 0
 ·rw [if_neg (by omega), if_pos (by omega)]
  rw [Option.bind_some, Int.toNat_natCast, Num.bitLen_bitsN h2, Nat.mod_eq_of_lt (by omega)]
 ·rw [if_pos (by omega), if_pos (by omega), Option.bind_some, Int.toNat_natCast, Num.bitLen_bitsN h1]
  have hb := Num.bitsN_mul (v := M / 18446744073709551616) (by omega) 64 (M % 18446744073709551616) h2
  rw [show M / 18446744073709551616 * 2 ^ 64 + M % 18446744073709551616 = M by
   have : (2 : Nat) ^ 64 = 18446744073709551616 := rfl
   rw [this, Nat.mul_comm]; exact hd] at hb
  have hle : Num.bitsN (M / 18446744073709551616) ≤ 64 := by
   rcases Nat.lt_or_ge 64 (Num.bitsN (M / 18446744073709551616)) with q | q
   ·exfalso
    have := Num.bitsN_le (v := M / 18446744073709551616) (by omega)
    have h3 : 2 ^ 64 ≤ 2 ^ (Num.bitsN (M / 18446744073709551616) - 1) := Nat.pow_le_pow_right (by decide) (by omega)
    have : (2 : Nat) ^ 64 = 18446744073709551616 := rfl
    omega
   ·exact q
  rw [hb, i64_id (by omega) (by omega)]
  congr 1
  omega
section
variable (w : World)
theorem s_right (M n : Nat) (hM : M < 2 ^ 128) (hn : n ≤ 1000000) : Calls Tryz.prog 172 #[.int .u64 (hiW M), .int .u64 (loW M), .int .i64 (n : Int)] w fun e w' => e = .returned (.tuple #[.int .u64 (hiW (M / 2 ^ n)), .int .u64 (loW (M / 2 ^ n)), .bool (decide (M % 2 ^ n ≠ 0))]) ∧ Drawn0 w w' :=
 soft_right.calls _ _ _ _ _ _ w (right_f M n hM hn)
theorem s_length (M : Nat) (hM : M < 2 ^ 128) : Calls Tryz.prog 171 #[.int .u64 (hiW M), .int .u64 (loW M)] w fun e w' => e = .returned (.int .i64 ((Num.bitsN M : Nat) : Int)) ∧ Drawn0 w w' :=
 soft_length.calls 0 _ _ _ w (length_f M hM)
end
end Go.Proofs.YtdoeigngpemcgaaGreatDoor.Dec
namespace Go.Flt
open Go.Num
/-- m by 2^t, rounded to the nearest, of two the even one -/
def rne (m t : Nat) : Nat := if 2 ^ t < 2 * (m % 2 ^ t) ∨ (2 * (m % 2 ^ t) = 2 ^ t ∧ m / 2 ^ t % 2 = 1) then m / 2 ^ t + 1 else m / 2 ^ t
/-- the exponent of the last digit -/
def expo (m : Nat) (e : Int) : Int := max ((bitsN m : Int) + e - 53) (-1074)
/-- the pattern (without the sign) of m times 2^e, rounded once -/
def mkN (m : Nat) (e : Int) : Nat :=
 if m = 0 then 0 else min 9218868437227405312 ((expo m e + 1074).toNat * 4503599627370496 + (if expo m e ≤ e then m * 2 ^ (e - expo m e).toNat else rne m (expo m e - e).toNat))
/-- cut at t digits, the last one set if something was lost -/
def odd (m t : Nat) : Nat := if m % 2 ^ t = 0 then m / 2 ^ t else m / 2 ^ t / 2 * 2 + 1
theorem odd_div (m t : Nat) : odd m t / 2 = m / 2 ^ t / 2 := by
 unfold odd
 split <;> omega
theorem bits_half {v n : Nat} (h : bitsN v = n + 2) : bitsN (v / 2) = n + 1 := by
 have hv : 0 < v := by
  rcases Nat.eq_zero_or_pos v with h0 | h0
  ·rw [h0, bitsN_zero] at h; omega
  ·exact h0
 have a := bitsN_lt v
 have b := bitsN_le hv
 rw [h] at a b
 rw [show n + 2 - 1 = n + 1 by omega, Nat.pow_succ] at b
 rw [Nat.pow_succ] at a
 exact bitsN_eq (by omega) (by omega)
theorem bits_div {m t n : Nat} (h : bitsN m = t + (n + 1)) : bitsN (m / 2 ^ t) = n + 1 := by
 have hm : 0 < m := by
  rcases Nat.eq_zero_or_pos m with h0 | h0
  ·rw [h0, bitsN_zero] at h; omega
  ·exact h0
 have a := bitsN_lt m
 have b := bitsN_le hm
 rw [h] at a b
 rw [show t + (n + 1) - 1 = n + t by omega, Nat.pow_add] at b
 rw [Nat.add_comm t, Nat.pow_add] at a
 exact bitsN_eq ((Nat.le_div_iff_mul_le (Nat.two_pow_pos t)).2 b) ((Nat.div_lt_iff_lt_mul (Nat.two_pow_pos t)).2 a)
theorem bits_odd {m t n : Nat} (h : bitsN m = t + (n + 2)) : bitsN (odd m t) = n + 2 := by
 have h1 := bits_div (n := n + 1) h
 have h2 : bitsN (m / 2 ^ t / 2) = n + 1 := bits_half h1
 unfold odd
 split
 ·exact h1
 ·have hp : 0 < m / 2 ^ t / 2 := by
   rcases Nat.eq_zero_or_pos (m / 2 ^ t / 2) with h0 | h0
   ·rw [h0, bitsN_zero] at h2; omega
   ·exact h0
  have := bitsN_mul hp 1 1 (by decide)
  rw [h2, Nat.pow_one] at this
  exact this
theorem div_pow_add (m s t : Nat) : m / 2 ^ (s + t) = m / 2 ^ t / 2 ^ s := by rw [Nat.add_comm, Nat.pow_add, Nat.div_div_eq_div_mul]
theorem mod_pow_add (m s t : Nat) : m % 2 ^ (s + t) = 2 ^ t * (m / 2 ^ t % 2 ^ s) + m % 2 ^ t := by
 rw [Nat.add_comm s t, Nat.pow_add, Nat.mod_mul]
 omega
theorem odd_high (m t s : Nat) (hs : 1 ≤ s) : odd m t / 2 ^ s = m / 2 ^ t / 2 ^ s := by
 obtain ⟨r, rfl⟩ : ∃ r, s = r + 1 := ⟨s - 1, by omega⟩
 have e : ∀ a : Nat, a / 2 ^ (r + 1) = a / 2 / 2 ^ r := fun a => by rw [Nat.pow_succ, Nat.mul_comm, Nat.div_div_eq_div_mul]
 rw [e, e, odd_div]
/-- rounding sees no more of what was lost than whether something was -/
theorem rne_odd (m t s : Nat) (hs : 2 ≤ s) : rne (odd m t) s = rne m (s + t) := by
 obtain ⟨r, rfl⟩ : ∃ r, s = r + 2 := ⟨s - 2, by omega⟩
 have hh := odd_high m t (r + 2) (by omega)
 have hd := div_pow_add m (r + 2) t
 have hm := mod_pow_add m (r + 2) t
 have e1 : (2 : Nat) ^ (r + 2) = 4 * 2 ^ r := by rw [Nat.pow_add]; omega
 have e2 : (2 : Nat) ^ (r + 2 + t) = 2 ^ t * (4 * 2 ^ r) := by rw [Nat.pow_add, e1, Nat.mul_comm]
 -- the digits cut off
 have hlt := Nat.mod_lt m (Nat.two_pow_pos t)
 have hx : odd m t % 2 ^ (r + 2) = if m % 2 ^ t = 0 then m / 2 ^ t % 2 ^ (r + 2) else m / 2 ^ t % 2 ^ (r + 2) / 2 * 2 + 1 := by
  unfold odd
  split
  ·rfl
  ·have e3 : (2 : Nat) ^ (r + 2) = 2 * (2 * 2 ^ r) := by rw [e1]; omega
   rw [e3]
   generalize 2 * 2 ^ r = k
   generalize m / 2 ^ t = a
   have h1 : (a / 2 * 2 + 1) % (2 * k) = 2 * (a / 2 % k) + 1 := by
    rw [Nat.mod_mul, show (a / 2 * 2 + 1) / 2 = a / 2 by omega]
    omega
   have h2 : a % (2 * k) / 2 = a / 2 % k := by
    rw [Nat.mod_mul]
    omega
   rw [h1, h2]
   omega
 unfold rne
 rw [hh, hx, hd, hm, e2, e1]
 have hxl : m / 2 ^ t % (4 * 2 ^ r) < 4 * 2 ^ r := Nat.mod_lt _ (by have := Nat.two_pow_pos r; omega)
 rw [e1] at *
 generalize m / 2 ^ t % (4 * 2 ^ r) = x at *
 generalize m % 2 ^ t = y at *
 have hp := Nat.two_pow_pos t
 have hr := Nat.two_pow_pos r
 generalize 2 ^ t = T at *
 generalize 2 ^ r = K at *
 have c1 : (4 * K < 2 * (if y = 0 then x else x / 2 * 2 + 1)) ↔ (T * (4 * K) < 2 * (T * x + y)) := by
  have f1 : T * (4 * K) = 2 * (T * (2 * K)) := by rw [show 4 * K = 2 * (2 * K) by omega, Nat.mul_left_comm]
  rw [f1]
  by_cases y0 : y = 0
  ·subst y0
   rw [if_pos rfl, Nat.add_zero]
   constructor
   ·intro h
    have : T * (2 * K) < T * x := Nat.mul_lt_mul_of_pos_left (by omega) hp
    omega
   ·intro h
    have : T * (2 * K) < T * x := by omega
    have := Nat.lt_of_mul_lt_mul_left this
    omega
  ·rw [if_neg y0]
   constructor
   ·intro h
    have : T * (2 * K) ≤ T * x := Nat.mul_le_mul_left _ (by omega)
    omega
   ·intro h
    have h1 : T * (2 * K) < T * (x + 1) := by rw [Nat.mul_add]; omega
    have := Nat.lt_of_mul_lt_mul_left h1
    omega
 have c2 : (2 * (if y = 0 then x else x / 2 * 2 + 1) = 4 * K) ↔ (2 * (T * x + y) = T * (4 * K)) := by
  have f1 : T * (4 * K) = 2 * (T * (2 * K)) := by rw [show 4 * K = 2 * (2 * K) by omega, Nat.mul_left_comm]
  rw [f1]
  by_cases y0 : y = 0
  ·subst y0
   rw [if_pos rfl, Nat.add_zero]
   constructor
   ·intro h
    have : x = 2 * K := by omega
    rw [this]
   ·intro h
    have : x = 2 * K := Nat.eq_of_mul_eq_mul_left hp (by omega)
    omega
  ·rw [if_neg y0]
   constructor
   ·intro h; omega
   ·intro h
    exfalso
    have h1 : T * x + y = T * (2 * K) := by omega
    have h2 : T * x < T * (2 * K) := by omega
    have h3 := Nat.lt_of_mul_lt_mul_left h2
    have h4 : T * (x + 1) ≤ T * (2 * K) := Nat.mul_le_mul_left _ h3
    rw [Nat.mul_add] at h4
    omega
 simp only [c1, c2]
/-- what is lost does not count beyond its being there -/
theorem mkN_odd (m t : Nat) (e : Int) (h : t + 55 ≤ bitsN m) : mkN (odd m t) (e + t) = mkN m e := by
 obtain ⟨n, hn⟩ : ∃ n, bitsN m = t + (n + 2) := ⟨bitsN m - t - 2, by omega⟩
 have hb := bits_odd hn
 have hm : m ≠ 0 := by
  intro h0
  rw [h0, bitsN_zero] at hn
  omega
 have ho : odd m t ≠ 0 := by
  intro h0
  rw [h0, bitsN_zero] at hb
  omega
 have hexp : expo (odd m t) (e + t) = expo m e := by
  unfold expo
  rw [hb, hn]
  congr 1
  omega
 have hq : expo m e ≥ (bitsN m : Int) + e - 53 := by unfold expo; omega
 unfold mkN
 rw [if_neg hm, if_neg ho, hexp, if_neg (by omega), if_neg (by omega)]
 congr 2
 have := rne_odd m t (expo m e - (e + t)).toNat (by omega)
 rw [this]
 congr 1
 omega
theorem rne_mono {a b t : Nat} (h : a ≤ b) : rne a t ≤ rne b t := by
 have hp := Nat.two_pow_pos t
 have ea := Nat.div_add_mod a (2 ^ t)
 have eb := Nat.div_add_mod b (2 ^ t)
 have la := Nat.mod_lt a hp
 have lb := Nat.mod_lt b hp
 have hd : a / 2 ^ t ≤ b / 2 ^ t := Nat.div_le_div_right h
 unfold rne
 generalize a / 2 ^ t = x at *
 generalize b / 2 ^ t = y at *
 generalize a % 2 ^ t = r at *
 generalize b % 2 ^ t = s at *
 generalize 2 ^ t = T at *
 rcases Nat.lt_or_ge x y with c | c
 ·split <;> split <;> omega
 ·have : x = y := by omega
  subst this
  have hrs : r ≤ s := by omega
  split
  ·split
   ·omega
   ·rename_i h1 h2
    exfalso
    apply h2
    rcases h1 with h1 | h1
    ·exact .inl (by omega)
    ·rcases Nat.lt_or_ge T (2 * s) with h3 | h3
     ·exact .inl h3
     ·exact .inr ⟨by omega, h1.2⟩
  ·split <;> omega
theorem rne_le (m t : Nat) : rne m t ≤ m / 2 ^ t + 1 := by unfold rne; split <;> omega
theorem rne_ge (m t : Nat) : m / 2 ^ t ≤ rne m t := by unfold rne; split <;> omega
/-- the digits that are kept -/
def keep (m : Nat) (e : Int) : Nat := if expo m e ≤ e then m * 2 ^ (e - expo m e).toNat else rne m (expo m e - e).toNat
theorem mkN_keep {m : Nat} (h : m ≠ 0) (e : Int) : mkN m e = min 9218868437227405312 ((expo m e + 1074).toNat * 4503599627370496 + keep m e) := by
 unfold mkN keep
 rw [if_neg h]
theorem keep_le {m : Nat} (_hm : 0 < m) (e : Int) : keep m e ≤ 9007199254740992 := by
 have hq : expo m e ≥ (bitsN m : Int) + e - 53 := by unfold expo; omega
 have a := bitsN_lt m
 have h53 : (2 : Nat) ^ 53 = 9007199254740992 := by decide
 unfold keep
 split
 ·rename_i c
  have h1 : m * 2 ^ (e - expo m e).toNat < 2 ^ bitsN m * 2 ^ (e - expo m e).toNat := Nat.mul_lt_mul_of_pos_right a (Nat.two_pow_pos _)
  rw [← Nat.pow_add] at h1
  have h2 : 2 ^ (bitsN m + (e - expo m e).toNat) ≤ 2 ^ 53 := Nat.pow_le_pow_right (by decide) (by omega)
  omega
 ·rename_i c
  have h1 := rne_le m (expo m e - e).toNat
  have h2 : m / 2 ^ (expo m e - e).toNat < 2 ^ 53 := by
   rw [Nat.div_lt_iff_lt_mul (Nat.two_pow_pos _), ← Nat.pow_add]
   exact Nat.lt_of_lt_of_le a (Nat.pow_le_pow_right (by decide) (by omega))
  omega
theorem keep_ge {m : Nat} (hm : 0 < m) {e : Int} (h : -1074 < expo m e) : 4503599627370496 ≤ keep m e := by
 have hq : expo m e = (bitsN m : Int) + e - 53 := by unfold expo at h ⊢; omega
 have b := bitsN_le hm
 have hb := bitsN_pos hm
 have h52 : (2 : Nat) ^ 52 = 4503599627370496 := by decide
 unfold keep
 split
 ·rename_i c
  have h1 : 2 ^ (bitsN m - 1) * 2 ^ (e - expo m e).toNat ≤ m * 2 ^ (e - expo m e).toNat := Nat.mul_le_mul_right _ b
  rw [← Nat.pow_add, show bitsN m - 1 + (e - expo m e).toNat = 52 by omega] at h1
  omega
 ·rename_i c
  have h1 := rne_ge m (expo m e - e).toNat
  have h2 : 2 ^ 52 ≤ m / 2 ^ (expo m e - e).toNat := by
   rw [Nat.le_div_iff_mul_le (Nat.two_pow_pos _), ← Nat.pow_add, show 52 + (expo m e - e).toNat = bitsN m - 1 by omega]
   exact b
  omega
theorem expo_mono {a b : Nat} (h : a ≤ b) (e : Int) : expo a e ≤ expo b e := by
 have := bitsN_mono h
 unfold expo
 omega
theorem expo_ge (m : Nat) (e : Int) : -1074 ≤ expo m e := by unfold expo; omega
theorem mkN_mono {a b : Nat} (h : a ≤ b) (e : Int) : mkN a e ≤ mkN b e := by
 rcases Nat.eq_zero_or_pos a with ha | ha
 ·subst ha
  unfold mkN
  rw [if_pos rfl]
  exact Nat.zero_le _
 ·have hb : 0 < b := by omega
  rw [mkN_keep (by omega), mkN_keep (by omega)]
  have g1 := expo_ge a e
  have g2 := expo_ge b e
  have hx := expo_mono h e
  have key : (expo a e + 1074).toNat * 4503599627370496 + keep a e ≤ (expo b e + 1074).toNat * 4503599627370496 + keep b e := by
   rcases (show expo a e < expo b e ∨ expo b e ≤ expo a e by omega) with c | c
   ·have k1 := keep_le ha e
    have k2 := keep_ge hb (e := e) (by omega)
    omega
   ·have hxe : expo a e = expo b e := by omega
    have : keep a e ≤ keep b e := by
     unfold keep
     rw [hxe]
     split
     ·exact Nat.mul_le_mul_right _ h
     ·exact rne_mono h
    rw [hxe]
    omega
  omega
/-- up or not, seen from the half -/
def hal (m t r : Nat) : Nat := if m / 2 ^ t % 2 = 1 ∧ (m % 2 ^ t ≠ 0 ∨ r = 1 ∨ m / 2 ^ t / 2 % 2 = 1) then m / 2 ^ t / 2 + 1 else m / 2 ^ t / 2
/-- a number of digits and a rest, cut and rounded, with the exponent of the last digit: as soft.round walks -/
def rnd (m : Nat) (e : Int) (r : Nat) : Nat × Int :=
 if expo m e ≤ e then (m * 2 ^ (e - expo m e).toNat, expo m e)
 else if hal m (expo m e - e - 1).toNat r = 9007199254740992 then (hal m (expo m e - e - 1).toNat r / 2, expo m e + 1) else (hal m (expo m e - e - 1).toNat r, expo m e)
/-- the float of it: as soft.pack walks -/
def packN (m : Nat) (e : Int) (r : Nat) : Nat :=
 if m = 0 then 0 else if 971 < (rnd m e r).2 then 9218868437227405312
 else if (rnd m e r).1 < 4503599627370496 then (rnd m e r).1
 else ((rnd m e r).2 + 1075).toNat * 4503599627370496 + ((rnd m e r).1 - 4503599627370496)
theorem expo_rest {m r : Nat} (hm : 0 < m) (hr : r ≤ 1) (e : Int) : expo (2 * m + r) (e - 1) = expo m e := by
 have := bitsN_mul hm 1 r (by omega)
 rw [Nat.pow_one, Nat.mul_comm] at this
 unfold expo
 rw [this]
 omega
/-- up or not, seen from the half -/
theorem rne_half (m r t : Nat) (hr : r ≤ 1) : rne (2 * m + r) (t + 2) = hal m t r := by
 have hp := Nat.two_pow_pos t
 have e2 : (2 : Nat) ^ (t + 2) = 4 * 2 ^ t := by rw [Nat.pow_add, Nat.mul_comm]
 have ed : (2 * m + r) / 2 ^ (t + 2) = m / 2 ^ t / 2 := by
  rw [show (2 : Nat) ^ (t + 2) = 2 * (2 ^ t * 2) by rw [e2]; omega, ← Nat.div_div_eq_div_mul, show (2 * m + r) / 2 = m by omega, ← Nat.div_div_eq_div_mul]
 have em := Nat.div_add_mod (2 * m + r) (2 ^ (t + 2))
 have ml := Nat.mod_lt m hp
 have mm := Nat.div_add_mod m (2 ^ t)
 rw [ed, e2] at em
 unfold rne hal
 rw [ed, e2]
 generalize (2 * m + r) % (4 * 2 ^ t) = R at em ⊢
 generalize hz : m % 2 ^ t = z at ml mm ⊢
 generalize hh : m / 2 ^ t = h at mm em ⊢
 generalize 2 ^ t = p at *
 have e4 : 4 * p * (h / 2) = 2 * (p * (2 * (h / 2))) := by
  rw [Nat.mul_assoc, Nat.mul_left_comm p 2]; omega
 rcases (show h % 2 = 0 ∨ h % 2 = 1 by omega) with c | c
 ·rw [show 2 * (h / 2) = h by omega] at e4
  rw [if_neg (by omega), if_neg (by omega)]
 ·have e5 : p * (2 * (h / 2)) + p = p * h := by
   rw [← Nat.mul_succ]; congr 1; omega
  have hR : R = 2 * p + 2 * z + r := by omega
  rcases (show (z ≠ 0 ∨ r = 1) ∨ (z = 0 ∧ r = 0) by omega) with d | d
  ·rw [if_pos (by omega), if_pos (by omega)]
  ·by_cases o : h / 2 % 2 = 1
   ·rw [if_pos (by omega), if_pos (by omega)]
   ·rw [if_neg (by omega), if_neg (by omega)]
theorem rnd_keep {m r : Nat} (hm : 0 < m) (hr : r ≤ 1) {e : Int} (h : r = 1 → e < expo m e) :
  rnd m e r = if keep (2 * m + r) (e - 1) = 9007199254740992 ∧ e < expo m e then (4503599627370496, expo m e + 1) else (keep (2 * m + r) (e - 1), expo m e) := by
 have hx := expo_rest hm hr e
 unfold rnd keep
 rw [hx]
 by_cases c : expo m e ≤ e
 ·have hr0 : r = 0 := by omega
  subst hr0
  rw [if_pos c, if_neg (by omega)]
  congr 1
  by_cases d : expo m e ≤ e - 1
  ·rw [if_pos d, show (e - expo m e).toNat = (e - 1 - expo m e).toNat + 1 by omega, Nat.pow_succ, Nat.mul_comm _ 2, ← Nat.mul_assoc, Nat.add_zero, Nat.mul_comm 2 m]
  ·rw [if_neg d, show expo m e = e by omega, show (e - (e - 1)).toNat = 1 by omega, show (e - e).toNat = 0 by omega]
   unfold rne
   have h1 : (2 * m + 0) % 2 ^ 1 = 0 := by omega
   have h2 : (2 * m + 0) / 2 ^ 1 = m := by omega
   rw [h1, h2, if_neg (by simp)]
   omega
 ·rw [if_neg c, if_neg (show ¬ expo m e ≤ e - 1 by omega)]
  have ht : (expo m e - (e - 1)).toNat = (expo m e - e - 1).toNat + 2 := by omega
  rw [ht, rne_half m r _ hr]
  generalize hal m (expo m e - e - 1).toNat r = n
  by_cases d : n = 9007199254740992
  ·rw [if_pos d, if_pos ⟨d, by omega⟩, d]
  ·rw [if_neg d, if_neg (fun k => d k.1)]
/-- what soft.pack packs is the float of the number and a half more for the rest -/
theorem packN_eq {m r : Nat} (hm : 0 < m) (hr : r ≤ 1) {e : Int} (h : r = 1 → e < expo m e) : packN m e r = mkN (2 * m + r) (e - 1) := by
 have hx := expo_rest hm hr e
 have hg := expo_ge m e
 rw [mkN_keep (by omega), hx]
 have kl := keep_le (m := 2 * m + r) (by omega) (e - 1)
 have kg : -1074 < expo m e → 4503599627370496 ≤ keep (2 * m + r) (e - 1) := fun k => keep_ge (by omega) (by rw [hx]; exact k)
 unfold packN
 rw [if_neg (by omega), rnd_keep hm hr h]
 generalize keep (2 * m + r) (e - 1) = n at kl kg ⊢
 generalize expo m e = q at hg kg ⊢
 by_cases c : n = 9007199254740992 ∧ e < q
 ·rw [if_pos c]
  dsimp only
  split
  ·omega
  ·split <;> omega
 ·rw [if_neg c]
  dsimp only
  split
  ·omega
  ·split <;> omega
/-- a quotient, twice, and one more if there is a rest -/
def sq (p q : Nat) : Nat := 2 * (p / q) + (if p % q = 0 then 0 else 1)
theorem sq_scale (p q c : Nat) (hc : 0 < c) : sq (p * c) (q * c) = sq p q := by
 unfold sq
 rw [Nat.mul_div_mul_right _ _ hc, Nat.mul_mod_mul_right]
 congr 1
 by_cases h : p % q = 0
 ·rw [h, Nat.zero_mul]
 ·rw [if_neg h, if_neg (Nat.mul_ne_zero h (by omega))]
theorem sq_mono_same {a b q : Nat} (h : a ≤ b) : sq a q ≤ sq b q := by
 have h1 : a / q ≤ b / q := Nat.div_le_div_right h
 have ea := Nat.div_add_mod a q
 have eb := Nat.div_add_mod b q
 unfold sq
 rcases Nat.lt_or_ge (a / q) (b / q) with c | c
 ·split <;> split <;> omega
 ·have e : a / q = b / q := by omega
  rw [e] at ea
  rw [e]
  split <;> split <;> omega
theorem sq_mono {p q a b : Nat} (hq : 0 < q) (hb : 0 < b) (h : p * b ≤ a * q) : sq p q ≤ sq a b := by
 rw [← sq_scale p q b hb, ← sq_scale a b q hq, Nat.mul_comm q b]
 exact sq_mono_same h
theorem sq_odd (p q t : Nat) (hq : 0 < q) : odd (sq (p * 2 ^ t) q) t = sq p q := by
 rcases Nat.eq_zero_or_pos t with t0 | t0
 ·rw [t0, Nat.pow_zero, Nat.mul_one]
  unfold odd
  rw [Nat.pow_zero, Nat.mod_one, if_pos rfl, Nat.div_one]
 have hp := Nat.two_pow_pos t
 have hd : p * 2 ^ t / q / 2 ^ t = p / q := by
  rw [Nat.div_div_eq_div_mul, Nat.mul_div_mul_right _ _ hp]
 have e1 := Nat.div_add_mod (p * 2 ^ t) q
 have e2 := Nat.div_add_mod p q
 have l2 := Nat.mod_lt p hq
 have h2 : sq (p * 2 ^ t) q / 2 = p * 2 ^ t / q := by unfold sq; split <;> omega
 have h3 : sq (p * 2 ^ t) q / 2 ^ t / 2 = p / q := by
  rw [Nat.div_div_eq_div_mul, Nat.mul_comm (2 ^ t) 2, ← Nat.div_div_eq_div_mul, h2, hd]
 unfold odd
 by_cases c : sq (p * 2 ^ t) q % 2 ^ t = 0
 ·rw [if_pos c]
  obtain ⟨d, hd'⟩ : ∃ d, sq (p * 2 ^ t) q = 2 ^ t * d := ⟨_, (Nat.mul_div_cancel' (Nat.dvd_of_mod_eq_zero c)).symm⟩
  rw [hd', Nat.mul_div_cancel_left _ hp] at h3 ⊢
  by_cases z : p * 2 ^ t % q = 0
  ·have hs : 2 * (p * 2 ^ t / q) = 2 ^ t * d := by
    have : sq (p * 2 ^ t) q = 2 * (p * 2 ^ t / q) := by unfold sq; rw [if_pos z]; omega
    rw [← hd', this]
   rw [z] at e1
   have k : 2 ^ t * (2 * p) = 2 ^ t * (q * d) := by
    calc 2 ^ t * (2 * p) = 2 * (p * 2 ^ t) := by rw [Nat.mul_comm, Nat.mul_assoc]
     _ = 2 * (q * (p * 2 ^ t / q)) := by omega
     _ = q * (2 * (p * 2 ^ t / q)) := Nat.mul_left_comm _ _ _
     _ = q * (2 ^ t * d) := by rw [hs]
     _ = 2 ^ t * (q * d) := Nat.mul_left_comm _ _ _
   have k2 : 2 * p = q * d := Nat.eq_of_mul_eq_mul_left hp k
   unfold sq
   rcases (show d % 2 = 0 ∨ d % 2 = 1 by omega) with o | o
   ·have : p = q * (d / 2) := by
     have h4 : q * d = 2 * (q * (d / 2)) := by rw [← Nat.mul_left_comm]; congr 1; omega
     omega
    have hz : p % q = 0 := by rw [this]; exact Nat.mul_mod_right _ _
    rw [if_pos hz]
    omega
   ·have hz : p % q ≠ 0 := by
     intro hz
     rw [hz] at e2
     have h4 : q * d = q * (2 * (p / q)) := by rw [← k2, Nat.mul_left_comm q 2]; omega
     have := Nat.eq_of_mul_eq_mul_left hq h4
     omega
    rw [if_neg hz]
    omega
  ·exfalso
   have hs : sq (p * 2 ^ t) q = 2 * (p * 2 ^ t / q) + 1 := by unfold sq; rw [if_neg z]
   have h5 : 2 ^ t * d = 2 * (2 ^ (t - 1) * d) := by
    rw [← Nat.mul_assoc, Nat.mul_comm 2, ← Nat.pow_succ, show (t - 1).succ = t by omega]
   rw [hs, h5] at hd'
   omega
 ·rw [if_neg c, h3]
  unfold sq
  have hz : p % q ≠ 0 := by
   intro hz
   apply c
   rw [hz] at e2
   have e3 : p * 2 ^ t = q * (p / q * 2 ^ t) := by rw [← Nat.mul_assoc]; congr 1; omega
   have e4 : p * 2 ^ t % q = 0 := by rw [e3]; exact Nat.mul_mod_right _ _
   have e5 : p * 2 ^ t / q = p / q * 2 ^ t := by rw [e3, Nat.mul_div_cancel_left _ hq]
   unfold sq
   rw [if_pos e4, e5, Nat.add_zero, ← Nat.mul_assoc]
   exact Nat.mul_mod_left _ _
  rw [if_neg hz]
  omega
/-- a longer quotient gives the same float -/
theorem quo_shift {p q : Nat} (hq : 0 < q) (t : Nat) (e : Int) (h : 55 ≤ bitsN (sq p q)) : mkN (sq (p * 2 ^ t) q) e = mkN (sq p q) (e + t) := by
 rw [← sq_odd p q t hq, mkN_odd]
 have hp : 0 < p / q := by
  rcases Nat.eq_zero_or_pos (p / q) with z | z
  ·exfalso
   have : sq p q ≤ 1 := by unfold sq; split <;> omega
   have := bitsN_mono this
   have : bitsN 1 = 1 := by decide
   omega
  ·exact z
 have a : bitsN (sq p q) = bitsN (p / q) + 1 := by
  have := bitsN_mul hp 1 (if p % q = 0 then 0 else 1) (by split <;> omega)
  unfold sq
  rw [Nat.pow_one, Nat.mul_comm] at this
  exact this
 have hle : p / q * 2 ^ (t + 1) + 0 ≤ sq (p * 2 ^ t) q := by
  have : p / q * 2 ^ t ≤ p * 2 ^ t / q := by
   rw [Nat.le_div_iff_mul_le hq, Nat.mul_right_comm]
   exact Nat.mul_le_mul_right _ (Nat.div_mul_le_self p q)
  rw [Nat.pow_succ, ← Nat.mul_assoc]
  unfold sq
  omega
 have b := bitsN_mono hle
 rw [bitsN_mul hp (t + 1) 0 (Nat.two_pow_pos _)] at b
 omega
/-- the float nearest to p / q -/
def fl (p q : Nat) : Nat := mkN (sq (p * 2 ^ (bitsN q + 55)) q) (-((bitsN q + 55 : Nat) : Int) - 1)
theorem bits_long {p q : Nat} (hp : 0 < p) (hq : 0 < q) (k : Nat) (hk : bitsN q + 53 ≤ k) : 55 ≤ bitsN (sq (p * 2 ^ k) q) := by
 have h1 : 2 ^ 53 ≤ p * 2 ^ k / q := by
  rw [Nat.le_div_iff_mul_le hq]
  have a := bitsN_lt q
  have b : 2 ^ (53 + bitsN q) ≤ 2 ^ k := Nat.pow_le_pow_right (by decide) (by omega)
  rw [Nat.pow_add] at b
  have c : 2 ^ 53 * q ≤ 2 ^ 53 * 2 ^ bitsN q := Nat.mul_le_mul_left _ (by omega)
  have d : 1 * 2 ^ k ≤ p * 2 ^ k := Nat.mul_le_mul_right _ hp
  omega
 have h2 : 2 ^ 54 ≤ sq (p * 2 ^ k) q := by
  have : (2 : Nat) ^ 54 = 2 * 2 ^ 53 := by decide
  unfold sq
  omega
 have h3 := bitsN_mono h2
 have h4 : bitsN (2 ^ 54) = 55 := bitsN_eq (n := 54) (by decide) (by decide)
 omega
/-- whatever the place at which a long quotient is cut, its float is the one -/
theorem quo_fl {p q : Nat} (hp : 0 < p) (hq : 0 < q) (a b : Nat) (h : 55 ≤ bitsN (sq (p * 2 ^ a) (q * 2 ^ b))) :
  mkN (sq (p * 2 ^ a) (q * 2 ^ b)) ((b : Int) - a - 1) = fl p q := by
 have hb := Nat.two_pow_pos b
 have k := bits_long hp hq (bitsN q + 55) (by omega)
 unfold fl
 generalize bitsN q + 55 = K at k ⊢
 have x := quo_shift (Nat.mul_pos hq hb) (b + K) ((b : Int) - a - 1 - ((b + K : Nat) : Int)) h
 have y := quo_shift hq a (-(K : Int) - 1 - a) k
 rw [show (b : Int) - a - 1 - ((b + K : Nat) : Int) + ((b + K : Nat) : Int) = (b : Int) - a - 1 by omega] at x
 rw [show -(K : Int) - 1 - a + a = -(K : Int) - 1 by omega] at y
 have z : p * 2 ^ a * 2 ^ (b + K) = p * 2 ^ K * 2 ^ a * 2 ^ b := by
  rw [Nat.pow_add, Nat.mul_assoc, Nat.mul_assoc, Nat.mul_assoc]
  congr 1
  rw [Nat.mul_comm (2 ^ b), Nat.mul_left_comm]
 rw [z, sq_scale _ _ _ hb] at x
 rw [← x, ← y]
 congr 1
 omega
theorem fl_at {p q : Nat} (hp : 0 < p) (hq : 0 < q) (k : Nat) (hk : bitsN q + 53 ≤ k) : mkN (sq (p * 2 ^ k) q) (-(k : Int) - 1) = fl p q := by
 have := quo_fl hp hq k 0 (by rw [Nat.pow_zero, Nat.mul_one]; exact bits_long hp hq k hk)
 rw [Nat.pow_zero, Nat.mul_one] at this
 rw [← this]
 congr 1
 omega
theorem fl_zero (q : Nat) : fl 0 q = 0 := by
 unfold fl sq
 rw [Nat.zero_mul, Nat.zero_div, Nat.zero_mod]
 rfl
/-- the greater the number, the greater the float -/
theorem fl_mono {p q a b : Nat} (hq : 0 < q) (hb : 0 < b) (h : p * b ≤ a * q) : fl p q ≤ fl a b := by
 rcases Nat.eq_zero_or_pos p with z | z
 ·rw [z, fl_zero]; exact Nat.zero_le _
 ·have ha : 0 < a := by
   rcases Nat.eq_zero_or_pos a with y | y
   ·rw [y, Nat.zero_mul] at h
    have := Nat.mul_pos z hb
    omega
   ·exact y
  rw [← fl_at z hq (bitsN q + bitsN b + 53) (by omega), ← fl_at ha hb (bitsN q + bitsN b + 53) (by omega)]
  apply mkN_mono
  apply sq_mono hq hb
  rw [Nat.mul_right_comm, Nat.mul_right_comm a]
  exact Nat.mul_le_mul_right _ h
theorem fl_same {p q a b : Nat} (hq : 0 < q) (hb : 0 < b) (h : p * b = a * q) : fl p q = fl a b :=
 Nat.le_antisymm (fl_mono hq hb (by omega)) (fl_mono hb hq (by omega))
theorem rne_double (m t : Nat) : rne (2 * m) (t + 1) = rne m t := by
 have h1 : 2 * m % 2 ^ (t + 1) = 2 * (m % 2 ^ t) := by rw [Nat.pow_succ, Nat.mul_comm (2 ^ t) 2, Nat.mul_mod_mul_left]
 have h2 : 2 * m / 2 ^ (t + 1) = m / 2 ^ t := by rw [Nat.pow_succ, Nat.mul_comm (2 ^ t) 2, Nat.mul_div_mul_left _ _ (by decide)]
 have h3 : (2 : Nat) ^ (t + 1) = 2 * 2 ^ t := by rw [Nat.pow_succ, Nat.mul_comm]
 unfold rne
 rw [h1, h2, h3]
 by_cases c : 2 ^ t < 2 * (m % 2 ^ t) ∨ 2 * (m % 2 ^ t) = 2 ^ t ∧ m / 2 ^ t % 2 = 1
 ·rw [if_pos c, if_pos (by omega)]
 ·rw [if_neg c, if_neg (by omega)]
/-- twice a number, half as often -/
theorem mkN_double (m : Nat) (e : Int) : mkN (2 * m) (e - 1) = mkN m e := by
 rcases Nat.eq_zero_or_pos m with z | hm
 ·rw [z]
  unfold mkN
  rw [if_pos rfl, if_pos rfl]
 ·have hx : expo (2 * m) (e - 1) = expo m e := expo_rest hm (r := 0) (by omega) e
  rw [mkN_keep (by omega), mkN_keep (by omega), hx]
  have : keep (2 * m) (e - 1) = keep m e := by
   unfold keep
   rw [hx]
   by_cases c : expo m e ≤ e
   ·rw [if_pos c]
    by_cases d : expo m e ≤ e - 1
    ·rw [if_pos d, show (e - expo m e).toNat = (e - 1 - expo m e).toNat + 1 by omega, Nat.pow_succ, Nat.mul_comm _ 2, ← Nat.mul_assoc, Nat.mul_comm 2 m]
    ·rw [if_neg d, show expo m e = e by omega, show (e - (e - 1)).toNat = 0 + 1 by omega, show (e - e).toNat = 0 by omega, rne_double]
     unfold rne
     rw [Nat.pow_zero, Nat.mod_one, Nat.div_one, if_neg (by omega), Nat.mul_one]
   ·rw [if_neg c, if_neg (by omega), show (expo m e - (e - 1)).toNat = (expo m e - e).toNat + 1 by omega, rne_double]
  rw [this]
theorem sq_pow (m n : Nat) : sq m (2 ^ n) = odd (2 * m) n := by
 have hp := Nat.two_pow_pos n
 have hs := sq_odd m (2 ^ n) n hp
 have : sq (m * 2 ^ n) (2 ^ n) = 2 * m := by
  unfold sq
  rw [Nat.mul_mod_left, Nat.mul_div_cancel _ hp, if_pos rfl, Nat.add_zero]
 rw [this] at hs
 exact hs.symm
/-- what is cut off is told by the rest -/
theorem make_cut {m n : Nat} (e : Int) (h : n + 54 ≤ bitsN m) : mkN (2 * (m / 2 ^ n) + (if m % 2 ^ n = 0 then 0 else 1)) (e + n - 1) = mkN m e := by
 have hm : 0 < m := by
  rcases Nat.eq_zero_or_pos m with z | z
  ·rw [z, bitsN_zero] at h; omega
  ·exact z
 have hb := bitsN_mul hm 1 0 (by decide)
 rw [Nat.pow_one, Nat.mul_comm] at hb
 have a := mkN_odd (2 * m) n (e - 1) (by rw [show 2 * m = 2 * m + 0 by omega]; omega)
 rw [← sq_pow, mkN_double, show e - 1 + n = e + n - 1 by omega] at a
 exact a
/-- a number whose digits end above the highest place is an infinity -/
theorem mkN_big {m : Nat} {e : Int} (hm : 0 < m) (h : 971 < expo m e) : mkN m e = 9218868437227405312 := by
 have kg := keep_ge hm (e := e) (by omega)
 rw [mkN_keep (by omega)]
 omega
/-- less than half of the least one is a 0 -/
theorem mkN_small {m : Nat} {e : Int} (h : (bitsN m : Int) + e < -1074) : mkN m e = 0 := by
 rcases Nat.eq_zero_or_pos m with z | hm
 ·rw [z]
  unfold mkN
  rw [if_pos rfl]
 ·have hx : expo m e = -1074 := by unfold expo; omega
  have hb := bitsN_pos hm
  rw [mkN_keep (by omega), hx]
  have : keep m e = 0 := by
   unfold keep
   rw [hx, if_neg (by omega)]
   have hl := bitsN_lt m
   have hp : 2 * 2 ^ bitsN m ≤ 2 ^ (-1074 - e).toNat := by
    rw [Nat.mul_comm, ← Nat.pow_succ]
    exact Nat.pow_le_pow_right (by decide) (by omega)
   generalize (-1074 - e).toNat = P at hp ⊢
   unfold rne
   rw [Nat.mod_eq_of_lt (by omega), Nat.div_eq_of_lt (by omega), if_neg (by omega)]
  rw [this]
  have : ((-1074 : Int) + 1074).toNat = 0 := rfl
  rw [this]
  omega
end Go.Flt
namespace Go.Proofs.YtdoeigngpemcgaaGreatDoor.Dec
open Go.RowKit Go.Flt Go.Proofs.YtdoeigngpemcgaaGreatDoor.PDec Go.Proofs.YtdoeigngpemcgaaGreatDoor.Pure Go.Proofs.YtdoeigngpemcgaaGreatDoorW.PrintWords Go.Proofs.YtdoeigngpemcgaaGreatDoorW.PrintLast Go.Proofs.YtdoeigngpemcgaaGreatDoorW.PrintMore
attribute [local go_sem] max2_int min2_int max_two min_two max_three min_three max_four min_four
set_option linter.unusedVariables false
set_option linter.unusedSimpArgs false
theorem bits_le_128 {M : Nat} (hM : M < 2 ^ 128) : Num.bitsN M ≤ 128 := by
 rcases Nat.eq_zero_or_pos M with h | h
 ·subst h; rw [Num.bitsN_zero]; omega
 ·rcases Nat.lt_or_ge 128 (Num.bitsN M) with q | q
  ·exfalso
   have h1 := Num.bitsN_le h
   have h3 : 2 ^ 128 ≤ 2 ^ (Num.bitsN M - 1) := Nat.pow_le_pow_right (by decide) (by omega)
   omega
  ·exact q
theorem i64w_id {x : Int} (h0 : -9223372036854775808 ≤ x) (h1 : x ≤ 9223372036854775807) : IntKind.i64.wrap x = x := (i64_w x).trans (i64_id h0 h1)
set_option maxHeartbeats 4000000 in
/-- the digits kept: a shift to the left -/
theorem s_round_l (w : World) (M : Nat) (hM : M < 2 ^ 128) (h0 : 0 < M) (e : Int) (he : -300000 ≤ e) (he2 : e ≤ 300000) (r : Bool) (hq : expo M e ≤ e) :
  Calls Tryz.prog 156 #[.agg #[.int .i64 53, .int .i64 (-1074), .int .i64 971], .int .u64 (hiW M), .int .u64 (loW M), .int .i64 e, .bool r] w fun x w' => x = .returned (.tuple #[.int .u64 ((M * 2 ^ (e - expo M e).toNat : Nat) : Int), .int .i64 (expo M e)]) ∧ Below w.heap.size w w' := by
 have hb := bits_le_128 hM
 have hlt := Num.bitsN_lt M
 have hx : expo M e = max ((Num.bitsN M : Int) + e - 53) (-1074) := rfl
 obtain ⟨d, hd⟩ : ∃ d : Nat, (d : Int) = e - expo M e := ⟨(e - expo M e).toNat, by omega⟩
 have hsz : M * 2 ^ d < 18446744073709551616 := by
  have h1 : M * 2 ^ d < 2 ^ Num.bitsN M * 2 ^ d := Nat.mul_lt_mul_of_pos_right hlt (Nat.two_pow_pos d)
  rw [← Nat.pow_add] at h1
  have h2 : 2 ^ (Num.bitsN M + d) ≤ 2 ^ 64 := Nat.pow_le_pow_right (by decide) (by omega)
  have : (2 : Nat) ^ 64 = 18446744073709551616 := rfl
  omega
 have hMs : M < 18446744073709551616 := Nat.lt_of_le_of_lt (Nat.le_mul_of_pos_right M (Nat.two_pow_pos d)) hsz
 have hlo : loW M = (M : Int) := by unfold loW; rw [Nat.mod_eq_of_lt hMs]
 have hdl : d ≤ 64 := by
  rcases Nat.lt_or_ge 64 d with q | q
  ·exfalso
   have h2 : 2 ^ 64 ≤ 2 ^ d := Nat.pow_le_pow_right (by decide) (by omega)
   have h3 : 1 * 2 ^ d ≤ M * 2 ^ d := Nat.mul_le_mul_right _ h0
   have : (2 : Nat) ^ 64 = 18446744073709551616 := rfl
   omega
  ·exact q
 have hsh := shl64 M d hdl
 rw [Nat.mod_eq_of_lt hsz] at hsh
 unfold shl at hsh
 rw [show IntKind.u64.bits = 64 from rfl] at hsh
 rw [show (e - expo M e).toNat = d by omega]
 obtain ⟨res, hres⟩ : ∃ res : Int, ((M * 2 ^ d : Nat) : Int) = res := ⟨_, rfl⟩
 rw [hres] at hsh ⊢
 obtain ⟨q, hqn⟩ : ∃ q : Int, expo M e = q := ⟨_, rfl⟩
 rw [hqn] at hq hd hx ⊢
 have HL := Aside0.mk (fun w => s_length w M hM)
 have HB := Aside0.mk (Below.refl w.heap.size w)
 obtain ⟨b, hbn⟩ : ∃ b : Int, ((Num.bitsN M : Nat) : Int) = b := ⟨_, rfl⟩
 rw [hbn] at hx HL
 obtain ⟨s1, hs1⟩ : ∃ s : Int, b + e = s := ⟨_, rfl⟩
 have hw1 : IntKind.i64.wrap (b + e) = s1 := by rw [i64w_id (by omega) (by omega)]; exact hs1
 obtain ⟨s2, hs2⟩ : ∃ s : Int, s1 - 53 = s := ⟨_, rfl⟩
 have hw2 : IntKind.i64.wrap (s1 - 53) = s2 := by rw [i64w_id (by omega) (by omega)]; exact hs2
 have hmax : (if s2 < -1074 then -1074 else s2) = q := by split <;> omega
 have hw3 : IntKind.i64.wrap (e - q) = (d : Int) := by rw [i64w_id (by omega) (by omega)]; omega
 rw [hlo] at HL ⊢
 have hd0 : (0 : Int) ≤ (d : Int) := by omega
 obtain ⟨dd, hdd⟩ : ∃ z : Int, (d : Int) = z := ⟨_, rfl⟩
 rw [hdd] at hw3 hd0 hsh
 have c1 := decide_eq_true hq
 have c2 := eq_true hd0
 clear hx hd hqn hbn hs1 hs2 hlo hMs hsz hres hdd hdl hlt hb h0 he he2 hd0
 go_enter Tryz.func156, Tryz.ntmps156
 go_wp2_with (first | ((with_reducible refine gate_dst (N := 5) rfl ?_); refine box_event ?hg (N := 5) ?hd (cs := #[.int .i64 53, .int .i64 (-1074), .int .i64 971]) (t := 168) ?hr ?_; (case hd => rfl); (case hg => rfl); (case hr => first | (go_simp; done) | (go_simp; rfl)); intro gb hg w12 hbox hb; have n0_ := Aside0.mk (below_step HB.out hb); have n1_ := Aside0.mk hbox; clear HB; have HB := n0_; have BK := n1_; clear n0_ n1_; clear hb hbox hg))
 go_quiet (first | (go_at_call 171; (with_reducible refine (HL.out _).mono ?_); rintro e w' ⟨rfl, ⟨nd, rfl⟩⟩; (try first | exact ⟨rfl, _, World.drewN_drewN _ _ _⟩ | exact ⟨rfl, _, Eq.trans (World.drewN_drewN _ _ _) (congrArg (World.drewN _) (Nat.add_assoc _ _ _))⟩); have z0 : w12.cell? ⟨gb, 0, none⟩ = some (.int .i64 53) := (blk_cell BK.out 0).trans rfl; have z1 : w12.cell? ⟨gb, 1, none⟩ = some (.int .i64 (-1074)) := (blk_cell BK.out 1).trans rfl))
 go_wp2
 go_ret2
 exact ⟨rfl, pw_below_drewN HB.out _⟩
set_option maxHeartbeats 8000000 in
/-- the digits cut and rounded -/
theorem s_round_r (w : World) (M : Nat) (hM : M < 2 ^ 128) (h0 : 0 < M) (e : Int) (he : -300000 ≤ e) (he2 : e ≤ 300000) (r : Bool) (hq : e < expo M e) :
  Calls Tryz.prog 156 #[.agg #[.int .i64 53, .int .i64 (-1074), .int .i64 971], .int .u64 (hiW M), .int .u64 (loW M), .int .i64 e, .bool r] w fun x w' => x = .returned (.tuple #[.int .u64 (((rnd M e (if r then 1 else 0)).1 : Nat) : Int), .int .i64 (rnd M e (if r then 1 else 0)).2]) ∧ Below w.heap.size w w' := by
 have hb := bits_le_128 hM
 have hlt := Num.bitsN_lt M
 have hx : expo M e = max ((Num.bitsN M : Int) + e - 53) (-1074) := rfl
 obtain ⟨t, ht⟩ : ∃ t : Nat, (t : Int) = expo M e - e - 1 := ⟨(expo M e - e - 1).toNat, by omega⟩
 obtain ⟨H, hH⟩ : ∃ H, H = M / 2 ^ t := ⟨_, rfl⟩
 have hHs : H < 18014398509481984 := by
  rw [hH, Nat.div_lt_iff_lt_mul (Nat.two_pow_pos t)]
  refine Nat.lt_of_lt_of_le hlt ?_
  rw [show (18014398509481984 : Nat) = 2 ^ 54 from rfl, ← Nat.pow_add]
  exact Nat.pow_le_pow_right (by decide) (by omega)
 have hR1 := fun w => s_right w M t hM (by omega)
 have hR2 : ∀ w, Calls Tryz.prog 172 #[.int .u64 (hiW H), .int .u64 (loW H), .int .i64 1] w fun e w' => e = .returned (.tuple #[.int .u64 (hiW (H / 2 ^ 1)), .int .u64 (loW (H / 2 ^ 1)), .bool (decide (H % 2 ^ 1 ≠ 0))]) ∧ Drawn0 w w' := fun w => s_right w H 1 (by have : (2 : Nat) ^ 128 = 340282366920938463463374607431768211456 := rfl; omega) (by omega)
 rw [← hH] at hR1
 rw [Nat.pow_one] at hR2
 have hlo : loW H = (H : Int) := by unfold loW; rw [Nat.mod_eq_of_lt (by omega)]
 have hhi : hiW H = 0 := by unfold hiW; rw [Nat.div_eq_of_lt (by omega)]; rfl
 have hlo2 : loW (H / 2) = ((H / 2 : Nat) : Int) := by unfold loW; rw [Nat.mod_eq_of_lt (by omega)]
 rw [hlo, hhi] at hR1 hR2
 rw [hlo2] at hR2
 have hrnd : rnd M e (if r then 1 else 0) = if hal M t (if r then 1 else 0) = 9007199254740992 then (hal M t (if r then 1 else 0) / 2, expo M e + 1) else (hal M t (if r then 1 else 0), expo M e) := by
  unfold rnd
  rw [if_neg (by omega), show (expo M e - e - 1).toNat = t by omega]
 have hhal : hal M t (if r then 1 else 0) = if H % 2 = 1 ∧ (M % 2 ^ t ≠ 0 ∨ r = true ∨ H / 2 % 2 = 1) then H / 2 + 1 else H / 2 := by
  unfold hal
  rw [← hH]
  cases r <;> simp
 obtain ⟨r1, hr1⟩ : ∃ z : Int, (((rnd M e (if r then 1 else 0)).1 : Nat) : Int) = z := ⟨_, rfl⟩
 obtain ⟨r2, hr2⟩ : ∃ z : Int, (rnd M e (if r then 1 else 0)).2 = z := ⟨_, rfl⟩
 rw [hr1, hr2]
 rw [hrnd, hhal] at hr1 hr2
 have hand1 : bits .and .u64 (H : Int) 1 = ((H % 2 : Nat) : Int) := by rw [show (1 : Int) = ((1 : Nat) : Int) from rfl, u64_and_nat _ _ (by omega) (by omega), nat_mask1]
 have hand2 : bits .and .u64 ((H / 2 : Nat) : Int) 1 = ((H / 2 % 2 : Nat) : Int) := by rw [show (1 : Int) = ((1 : Nat) : Int) from rfl, u64_and_nat _ _ (by omega) (by omega), nat_mask1]
 have hadd : IntKind.u64.wrap (((H / 2 : Nat) : Int) + 1) = ((H / 2 + 1 : Nat) : Int) := by rw [IntKind.wrap_u64]; omega
 obtain ⟨q, hqn⟩ : ∃ q : Int, expo M e = q := ⟨_, rfl⟩
 rw [hqn] at hq ht hx hr1 hr2
 obtain ⟨b, hbn⟩ : ∃ b : Int, ((Num.bitsN M : Nat) : Int) = b := ⟨_, rfl⟩
 have HL := Aside0.mk (fun w => s_length w M hM)
 rw [hbn] at hx HL
 obtain ⟨s1, hs1⟩ : ∃ s : Int, b + e = s := ⟨_, rfl⟩
 have hw1 : IntKind.i64.wrap (b + e) = s1 := by rw [i64w_id (by omega) (by omega)]; exact hs1
 obtain ⟨s2, hs2⟩ : ∃ s : Int, s1 - 53 = s := ⟨_, rfl⟩
 have hw2 : IntKind.i64.wrap (s1 - 53) = s2 := by rw [i64w_id (by omega) (by omega)]; exact hs2
 have hmax : (if s2 < -1074 then -1074 else s2) = q := by split <;> omega
 obtain ⟨s3, hs3⟩ : ∃ s : Int, q - e = s := ⟨_, rfl⟩
 have hw3 : IntKind.i64.wrap (q - e) = s3 := by rw [i64w_id (by omega) (by omega)]; exact hs3
 obtain ⟨tt, htt⟩ : ∃ z : Int, (t : Int) = z := ⟨_, rfl⟩
 have hw4 : IntKind.i64.wrap (s3 - 1) = tt := by rw [i64w_id (by omega) (by omega)]; omega
 have hw5 : IntKind.i64.wrap (q + 1) = q + 1 := i64w_id (by omega) (by omega)
 obtain ⟨q1, hq1⟩ : ∃ z : Int, q + 1 = z := ⟨_, rfl⟩
 have hw6 : IntKind.i64.wrap (q + 1) = q1 := by rw [hw5, hq1]
 rw [htt] at hR1
 rw [hq1] at hr1 hr2
 have c1 : decide (q ≤ e) = false := decide_eq_false (by omega)
 obtain ⟨h1, hh1⟩ : ∃ z : Int, (H : Int) = z := ⟨_, rfl⟩
 obtain ⟨h2, hh2⟩ : ∃ z : Int, ((H / 2 : Nat) : Int) = z := ⟨_, rfl⟩
 obtain ⟨h3, hh3⟩ : ∃ z : Int, ((H / 2 + 1 : Nat) : Int) = z := ⟨_, rfl⟩
 rw [hh1] at hR1 hR2 hand1
 rw [hh2] at hR2 hand2 hadd
 rw [hh3] at hadd
 obtain ⟨lost, hlost⟩ : ∃ z : Bool, decide (M % 2 ^ t ≠ 0) = z := ⟨_, rfl⟩
 rw [hlost] at hR1
 have HR1 := Aside0.mk hR1
 have HR2 := Aside0.mk hR2
 have HB := Aside0.mk (Below.refl w.heap.size w)
 -- what is decided: whether it goes up, and whether that carries
 have two : ∀ x : Nat, x % 2 = 0 ∨ x % 2 = 1 := fun x => by omega
 have fin : ∀ (N : Nat) (n : Int), (N : Int) = n → ((if H % 2 = 1 ∧ (M % 2 ^ t ≠ 0 ∨ r = true ∨ H / 2 % 2 = 1) then H / 2 + 1 else H / 2) = N) →
   (n = 9007199254740992 → r1 = 4503599627370496 ∧ r2 = q1) ∧ (n ≠ 9007199254740992 → r1 = n ∧ r2 = q) := by
  intro N n hn hN
  rw [hN] at hr1 hr2
  refine ⟨fun h => ?_, fun h => ?_⟩
  ·have hN' : N = 9007199254740992 := by omega
   rw [if_pos hN', hN'] at hr1
   rw [if_pos hN'] at hr2
   exact ⟨hr1.symm, hr2.symm⟩
  ·have hN' : ¬ N = 9007199254740992 := by omega
   rw [if_neg hN'] at hr1 hr2
   exact ⟨hr1.symm.trans hn, hr2.symm⟩
 -- the walk, for each way
 have HF := Aside0.mk fin
 have hh2' := Aside0.mk hh2
 have hh3' := Aside0.mk hh3
 have hlost' := Aside0.mk hlost
 clear fin hx hqn hbn hs1 hs2 hs3 htt hq1 hh1 hh2 hh3 hlost hR1 hR2 hw5 hlo hhi hlo2 hHs hb hlt h0 he he2 hrnd hhal hq ht hH
 have fit0 : ∀ z : Int, z = 9007199254740992 ∨ ((z == 9007199254740992) = false ∧ z ≠ 9007199254740992) := fun z => by
  by_cases h : z = 9007199254740992
  ·exact .inl h
  ·exact .inr ⟨by simpa using h, h⟩
 rcases two H with d1 | d1
 ·
  obtain ⟨hA, hB⟩ := HF.out (H / 2) h2 hh2'.out (if_neg (by omega))
  rw [d1] at hand1
  replace hand1 : bits .and .u64 h1 1 = 0 := hand1
  rcases fit0 h2 with c9 | ⟨c9, c9'⟩
  ·obtain ⟨rfl, rfl⟩ := hA c9
   subst c9
   clear hA hB d1 two fit0 hand2 hadd hr1 hr2
   go_enter Tryz.func156, Tryz.ntmps156
   go_wp2_with (first | ((with_reducible refine gate_dst (N := 5) rfl ?_); refine box_event ?hg (N := 5) ?hd (cs := #[.int .i64 53, .int .i64 (-1074), .int .i64 971]) (t := 168) ?hr ?_; (case hd => rfl); (case hg => rfl); (case hr => first | (go_simp; done) | (go_simp; rfl)); intro gb hg w12 hbox hb; have n0_ := Aside0.mk (below_step HB.out hb); have n1_ := Aside0.mk hbox; clear HB; have HB := n0_; have BK := n1_; clear n0_ n1_; clear hb hbox hg))
   go_quiet (first | (go_at_call 171; (with_reducible refine (HL.out _).mono ?_); rintro e w' ⟨rfl, ⟨nd, rfl⟩⟩; (try first | exact ⟨rfl, _, World.drewN_drewN _ _ _⟩ | exact ⟨rfl, _, Eq.trans (World.drewN_drewN _ _ _) (congrArg (World.drewN _) (Nat.add_assoc _ _ _))⟩); have z0 : w12.cell? ⟨gb, 0, none⟩ = some (.int .i64 53) := (blk_cell BK.out 0).trans rfl; have z1 : w12.cell? ⟨gb, 1, none⟩ = some (.int .i64 (-1074)) := (blk_cell BK.out 1).trans rfl))
   go_wp2_with (first | (go_at_call 172; (with_reducible refine (HR1.out _).mono ?_); rintro e w' ⟨rfl, ⟨nd, rfl⟩⟩) | (go_at_call 172; (with_reducible refine (HR2.out _).mono ?_); rintro e w' ⟨rfl, ⟨nd, rfl⟩⟩))
   go_ret2
   exact ⟨rfl, pw_below_drewN HB.out _⟩
  ·obtain ⟨rfl, rfl⟩ := hB c9'
   clear hA hB c9' d1 two fit0 hand2 hadd hr1 hr2
   go_enter Tryz.func156, Tryz.ntmps156
   go_wp2_with (first | ((with_reducible refine gate_dst (N := 5) rfl ?_); refine box_event ?hg (N := 5) ?hd (cs := #[.int .i64 53, .int .i64 (-1074), .int .i64 971]) (t := 168) ?hr ?_; (case hd => rfl); (case hg => rfl); (case hr => first | (go_simp; done) | (go_simp; rfl)); intro gb hg w12 hbox hb; have n0_ := Aside0.mk (below_step HB.out hb); have n1_ := Aside0.mk hbox; clear HB; have HB := n0_; have BK := n1_; clear n0_ n1_; clear hb hbox hg))
   go_quiet (first | (go_at_call 171; (with_reducible refine (HL.out _).mono ?_); rintro e w' ⟨rfl, ⟨nd, rfl⟩⟩; (try first | exact ⟨rfl, _, World.drewN_drewN _ _ _⟩ | exact ⟨rfl, _, Eq.trans (World.drewN_drewN _ _ _) (congrArg (World.drewN _) (Nat.add_assoc _ _ _))⟩); have z0 : w12.cell? ⟨gb, 0, none⟩ = some (.int .i64 53) := (blk_cell BK.out 0).trans rfl; have z1 : w12.cell? ⟨gb, 1, none⟩ = some (.int .i64 (-1074)) := (blk_cell BK.out 1).trans rfl))
   go_wp2_with (first | (go_at_call 172; (with_reducible refine (HR1.out _).mono ?_); rintro e w' ⟨rfl, ⟨nd, rfl⟩⟩) | (go_at_call 172; (with_reducible refine (HR2.out _).mono ?_); rintro e w' ⟨rfl, ⟨nd, rfl⟩⟩))
   go_ret2
   exact ⟨rfl, pw_below_drewN HB.out _⟩
 ·cases lost with
  | true =>
   obtain ⟨hA, hB⟩ := HF.out (H / 2 + 1) h3 hh3'.out (if_pos ⟨d1, .inl (of_decide_eq_true hlost'.out)⟩)
   rw [d1] at hand1
   replace hand1 : bits .and .u64 h1 1 = 1 := hand1
   rcases fit0 h3 with c9 | ⟨c9, c9'⟩
   ·obtain ⟨rfl, rfl⟩ := hA c9
    subst c9
    clear hA hB d1 two fit0 hand2 hr1 hr2
    go_enter Tryz.func156, Tryz.ntmps156
    go_wp2_with (first | ((with_reducible refine gate_dst (N := 5) rfl ?_); refine box_event ?hg (N := 5) ?hd (cs := #[.int .i64 53, .int .i64 (-1074), .int .i64 971]) (t := 168) ?hr ?_; (case hd => rfl); (case hg => rfl); (case hr => first | (go_simp; done) | (go_simp; rfl)); intro gb hg w12 hbox hb; have n0_ := Aside0.mk (below_step HB.out hb); have n1_ := Aside0.mk hbox; clear HB; have HB := n0_; have BK := n1_; clear n0_ n1_; clear hb hbox hg))
    go_quiet (first | (go_at_call 171; (with_reducible refine (HL.out _).mono ?_); rintro e w' ⟨rfl, ⟨nd, rfl⟩⟩; (try first | exact ⟨rfl, _, World.drewN_drewN _ _ _⟩ | exact ⟨rfl, _, Eq.trans (World.drewN_drewN _ _ _) (congrArg (World.drewN _) (Nat.add_assoc _ _ _))⟩); have z0 : w12.cell? ⟨gb, 0, none⟩ = some (.int .i64 53) := (blk_cell BK.out 0).trans rfl; have z1 : w12.cell? ⟨gb, 1, none⟩ = some (.int .i64 (-1074)) := (blk_cell BK.out 1).trans rfl))
    go_wp2_with (first | (go_at_call 172; (with_reducible refine (HR1.out _).mono ?_); rintro e w' ⟨rfl, ⟨nd, rfl⟩⟩) | (go_at_call 172; (with_reducible refine (HR2.out _).mono ?_); rintro e w' ⟨rfl, ⟨nd, rfl⟩⟩))
    go_ret2
    exact ⟨rfl, pw_below_drewN HB.out _⟩
   ·obtain ⟨rfl, rfl⟩ := hB c9'
    clear hA hB c9' d1 two fit0 hand2 hr1 hr2
    go_enter Tryz.func156, Tryz.ntmps156
    go_wp2_with (first | ((with_reducible refine gate_dst (N := 5) rfl ?_); refine box_event ?hg (N := 5) ?hd (cs := #[.int .i64 53, .int .i64 (-1074), .int .i64 971]) (t := 168) ?hr ?_; (case hd => rfl); (case hg => rfl); (case hr => first | (go_simp; done) | (go_simp; rfl)); intro gb hg w12 hbox hb; have n0_ := Aside0.mk (below_step HB.out hb); have n1_ := Aside0.mk hbox; clear HB; have HB := n0_; have BK := n1_; clear n0_ n1_; clear hb hbox hg))
    go_quiet (first | (go_at_call 171; (with_reducible refine (HL.out _).mono ?_); rintro e w' ⟨rfl, ⟨nd, rfl⟩⟩; (try first | exact ⟨rfl, _, World.drewN_drewN _ _ _⟩ | exact ⟨rfl, _, Eq.trans (World.drewN_drewN _ _ _) (congrArg (World.drewN _) (Nat.add_assoc _ _ _))⟩); have z0 : w12.cell? ⟨gb, 0, none⟩ = some (.int .i64 53) := (blk_cell BK.out 0).trans rfl; have z1 : w12.cell? ⟨gb, 1, none⟩ = some (.int .i64 (-1074)) := (blk_cell BK.out 1).trans rfl))
    go_wp2_with (first | (go_at_call 172; (with_reducible refine (HR1.out _).mono ?_); rintro e w' ⟨rfl, ⟨nd, rfl⟩⟩) | (go_at_call 172; (with_reducible refine (HR2.out _).mono ?_); rintro e w' ⟨rfl, ⟨nd, rfl⟩⟩))
    go_ret2
    exact ⟨rfl, pw_below_drewN HB.out _⟩
  | false =>
   cases r with
   | true =>
    obtain ⟨hA, hB⟩ := HF.out (H / 2 + 1) h3 hh3'.out (if_pos ⟨d1, .inr (.inl rfl)⟩)
    rw [d1] at hand1
    replace hand1 : bits .and .u64 h1 1 = 1 := hand1
    rcases fit0 h3 with c9 | ⟨c9, c9'⟩
    ·obtain ⟨rfl, rfl⟩ := hA c9
     subst c9
     clear hA hB d1 two fit0 hand2 hr1 hr2
     go_enter Tryz.func156, Tryz.ntmps156
     go_wp2_with (first | ((with_reducible refine gate_dst (N := 5) rfl ?_); refine box_event ?hg (N := 5) ?hd (cs := #[.int .i64 53, .int .i64 (-1074), .int .i64 971]) (t := 168) ?hr ?_; (case hd => rfl); (case hg => rfl); (case hr => first | (go_simp; done) | (go_simp; rfl)); intro gb hg w12 hbox hb; have n0_ := Aside0.mk (below_step HB.out hb); have n1_ := Aside0.mk hbox; clear HB; have HB := n0_; have BK := n1_; clear n0_ n1_; clear hb hbox hg))
     go_quiet (first | (go_at_call 171; (with_reducible refine (HL.out _).mono ?_); rintro e w' ⟨rfl, ⟨nd, rfl⟩⟩; (try first | exact ⟨rfl, _, World.drewN_drewN _ _ _⟩ | exact ⟨rfl, _, Eq.trans (World.drewN_drewN _ _ _) (congrArg (World.drewN _) (Nat.add_assoc _ _ _))⟩); have z0 : w12.cell? ⟨gb, 0, none⟩ = some (.int .i64 53) := (blk_cell BK.out 0).trans rfl; have z1 : w12.cell? ⟨gb, 1, none⟩ = some (.int .i64 (-1074)) := (blk_cell BK.out 1).trans rfl))
     go_wp2_with (first | (go_at_call 172; (with_reducible refine (HR1.out _).mono ?_); rintro e w' ⟨rfl, ⟨nd, rfl⟩⟩) | (go_at_call 172; (with_reducible refine (HR2.out _).mono ?_); rintro e w' ⟨rfl, ⟨nd, rfl⟩⟩))
     go_ret2
     exact ⟨rfl, pw_below_drewN HB.out _⟩
    ·obtain ⟨rfl, rfl⟩ := hB c9'
     clear hA hB c9' d1 two fit0 hand2 hr1 hr2
     go_enter Tryz.func156, Tryz.ntmps156
     go_wp2_with (first | ((with_reducible refine gate_dst (N := 5) rfl ?_); refine box_event ?hg (N := 5) ?hd (cs := #[.int .i64 53, .int .i64 (-1074), .int .i64 971]) (t := 168) ?hr ?_; (case hd => rfl); (case hg => rfl); (case hr => first | (go_simp; done) | (go_simp; rfl)); intro gb hg w12 hbox hb; have n0_ := Aside0.mk (below_step HB.out hb); have n1_ := Aside0.mk hbox; clear HB; have HB := n0_; have BK := n1_; clear n0_ n1_; clear hb hbox hg))
     go_quiet (first | (go_at_call 171; (with_reducible refine (HL.out _).mono ?_); rintro e w' ⟨rfl, ⟨nd, rfl⟩⟩; (try first | exact ⟨rfl, _, World.drewN_drewN _ _ _⟩ | exact ⟨rfl, _, Eq.trans (World.drewN_drewN _ _ _) (congrArg (World.drewN _) (Nat.add_assoc _ _ _))⟩); have z0 : w12.cell? ⟨gb, 0, none⟩ = some (.int .i64 53) := (blk_cell BK.out 0).trans rfl; have z1 : w12.cell? ⟨gb, 1, none⟩ = some (.int .i64 (-1074)) := (blk_cell BK.out 1).trans rfl))
     go_wp2_with (first | (go_at_call 172; (with_reducible refine (HR1.out _).mono ?_); rintro e w' ⟨rfl, ⟨nd, rfl⟩⟩) | (go_at_call 172; (with_reducible refine (HR2.out _).mono ?_); rintro e w' ⟨rfl, ⟨nd, rfl⟩⟩))
     go_ret2
     exact ⟨rfl, pw_below_drewN HB.out _⟩
   | false =>
    have hnl := of_decide_eq_false hlost'.out
    rcases two (H / 2) with d2 | d2
    ·
     obtain ⟨hA, hB⟩ := HF.out (H / 2) h2 hh2'.out (if_neg (fun h => h.2.elim hnl (fun a => a.elim (fun a => absurd a (by decide)) (fun a => by omega))))
     rw [d1] at hand1
     replace hand1 : bits .and .u64 h1 1 = 1 := hand1
     rw [d2] at hand2
     replace hand2 : bits .and .u64 h2 1 = 0 := hand2
     rcases fit0 h2 with c9 | ⟨c9, c9'⟩
     ·obtain ⟨rfl, rfl⟩ := hA c9
      subst c9
      clear hA hB d1 d2 hnl two fit0 hadd hr1 hr2
      go_enter Tryz.func156, Tryz.ntmps156
      go_wp2_with (first | ((with_reducible refine gate_dst (N := 5) rfl ?_); refine box_event ?hg (N := 5) ?hd (cs := #[.int .i64 53, .int .i64 (-1074), .int .i64 971]) (t := 168) ?hr ?_; (case hd => rfl); (case hg => rfl); (case hr => first | (go_simp; done) | (go_simp; rfl)); intro gb hg w12 hbox hb; have n0_ := Aside0.mk (below_step HB.out hb); have n1_ := Aside0.mk hbox; clear HB; have HB := n0_; have BK := n1_; clear n0_ n1_; clear hb hbox hg))
      go_quiet (first | (go_at_call 171; (with_reducible refine (HL.out _).mono ?_); rintro e w' ⟨rfl, ⟨nd, rfl⟩⟩; (try first | exact ⟨rfl, _, World.drewN_drewN _ _ _⟩ | exact ⟨rfl, _, Eq.trans (World.drewN_drewN _ _ _) (congrArg (World.drewN _) (Nat.add_assoc _ _ _))⟩); have z0 : w12.cell? ⟨gb, 0, none⟩ = some (.int .i64 53) := (blk_cell BK.out 0).trans rfl; have z1 : w12.cell? ⟨gb, 1, none⟩ = some (.int .i64 (-1074)) := (blk_cell BK.out 1).trans rfl))
      go_wp2_with (first | (go_at_call 172; (with_reducible refine (HR1.out _).mono ?_); rintro e w' ⟨rfl, ⟨nd, rfl⟩⟩) | (go_at_call 172; (with_reducible refine (HR2.out _).mono ?_); rintro e w' ⟨rfl, ⟨nd, rfl⟩⟩))
      go_ret2
      exact ⟨rfl, pw_below_drewN HB.out _⟩
     ·obtain ⟨rfl, rfl⟩ := hB c9'
      clear hA hB c9' d1 d2 hnl two fit0 hadd hr1 hr2
      go_enter Tryz.func156, Tryz.ntmps156
      go_wp2_with (first | ((with_reducible refine gate_dst (N := 5) rfl ?_); refine box_event ?hg (N := 5) ?hd (cs := #[.int .i64 53, .int .i64 (-1074), .int .i64 971]) (t := 168) ?hr ?_; (case hd => rfl); (case hg => rfl); (case hr => first | (go_simp; done) | (go_simp; rfl)); intro gb hg w12 hbox hb; have n0_ := Aside0.mk (below_step HB.out hb); have n1_ := Aside0.mk hbox; clear HB; have HB := n0_; have BK := n1_; clear n0_ n1_; clear hb hbox hg))
      go_quiet (first | (go_at_call 171; (with_reducible refine (HL.out _).mono ?_); rintro e w' ⟨rfl, ⟨nd, rfl⟩⟩; (try first | exact ⟨rfl, _, World.drewN_drewN _ _ _⟩ | exact ⟨rfl, _, Eq.trans (World.drewN_drewN _ _ _) (congrArg (World.drewN _) (Nat.add_assoc _ _ _))⟩); have z0 : w12.cell? ⟨gb, 0, none⟩ = some (.int .i64 53) := (blk_cell BK.out 0).trans rfl; have z1 : w12.cell? ⟨gb, 1, none⟩ = some (.int .i64 (-1074)) := (blk_cell BK.out 1).trans rfl))
      go_wp2_with (first | (go_at_call 172; (with_reducible refine (HR1.out _).mono ?_); rintro e w' ⟨rfl, ⟨nd, rfl⟩⟩) | (go_at_call 172; (with_reducible refine (HR2.out _).mono ?_); rintro e w' ⟨rfl, ⟨nd, rfl⟩⟩))
      go_ret2
      exact ⟨rfl, pw_below_drewN HB.out _⟩
    ·
     obtain ⟨hA, hB⟩ := HF.out (H / 2 + 1) h3 hh3'.out (if_pos ⟨d1, .inr (.inr d2)⟩)
     rw [d1] at hand1
     replace hand1 : bits .and .u64 h1 1 = 1 := hand1
     rw [d2] at hand2
     replace hand2 : bits .and .u64 h2 1 = 1 := hand2
     rcases fit0 h3 with c9 | ⟨c9, c9'⟩
     ·obtain ⟨rfl, rfl⟩ := hA c9
      subst c9
      clear hA hB d1 d2 hnl two fit0 hr1 hr2
      go_enter Tryz.func156, Tryz.ntmps156
      go_wp2_with (first | ((with_reducible refine gate_dst (N := 5) rfl ?_); refine box_event ?hg (N := 5) ?hd (cs := #[.int .i64 53, .int .i64 (-1074), .int .i64 971]) (t := 168) ?hr ?_; (case hd => rfl); (case hg => rfl); (case hr => first | (go_simp; done) | (go_simp; rfl)); intro gb hg w12 hbox hb; have n0_ := Aside0.mk (below_step HB.out hb); have n1_ := Aside0.mk hbox; clear HB; have HB := n0_; have BK := n1_; clear n0_ n1_; clear hb hbox hg))
      go_quiet (first | (go_at_call 171; (with_reducible refine (HL.out _).mono ?_); rintro e w' ⟨rfl, ⟨nd, rfl⟩⟩; (try first | exact ⟨rfl, _, World.drewN_drewN _ _ _⟩ | exact ⟨rfl, _, Eq.trans (World.drewN_drewN _ _ _) (congrArg (World.drewN _) (Nat.add_assoc _ _ _))⟩); have z0 : w12.cell? ⟨gb, 0, none⟩ = some (.int .i64 53) := (blk_cell BK.out 0).trans rfl; have z1 : w12.cell? ⟨gb, 1, none⟩ = some (.int .i64 (-1074)) := (blk_cell BK.out 1).trans rfl))
      go_wp2_with (first | (go_at_call 172; (with_reducible refine (HR1.out _).mono ?_); rintro e w' ⟨rfl, ⟨nd, rfl⟩⟩) | (go_at_call 172; (with_reducible refine (HR2.out _).mono ?_); rintro e w' ⟨rfl, ⟨nd, rfl⟩⟩))
      go_ret2
      exact ⟨rfl, pw_below_drewN HB.out _⟩
     ·obtain ⟨rfl, rfl⟩ := hB c9'
      clear hA hB c9' d1 d2 hnl two fit0 hr1 hr2
      go_enter Tryz.func156, Tryz.ntmps156
      go_wp2_with (first | ((with_reducible refine gate_dst (N := 5) rfl ?_); refine box_event ?hg (N := 5) ?hd (cs := #[.int .i64 53, .int .i64 (-1074), .int .i64 971]) (t := 168) ?hr ?_; (case hd => rfl); (case hg => rfl); (case hr => first | (go_simp; done) | (go_simp; rfl)); intro gb hg w12 hbox hb; have n0_ := Aside0.mk (below_step HB.out hb); have n1_ := Aside0.mk hbox; clear HB; have HB := n0_; have BK := n1_; clear n0_ n1_; clear hb hbox hg))
      go_quiet (first | (go_at_call 171; (with_reducible refine (HL.out _).mono ?_); rintro e w' ⟨rfl, ⟨nd, rfl⟩⟩; (try first | exact ⟨rfl, _, World.drewN_drewN _ _ _⟩ | exact ⟨rfl, _, Eq.trans (World.drewN_drewN _ _ _) (congrArg (World.drewN _) (Nat.add_assoc _ _ _))⟩); have z0 : w12.cell? ⟨gb, 0, none⟩ = some (.int .i64 53) := (blk_cell BK.out 0).trans rfl; have z1 : w12.cell? ⟨gb, 1, none⟩ = some (.int .i64 (-1074)) := (blk_cell BK.out 1).trans rfl))
      go_wp2_with (first | (go_at_call 172; (with_reducible refine (HR1.out _).mono ?_); rintro e w' ⟨rfl, ⟨nd, rfl⟩⟩) | (go_at_call 172; (with_reducible refine (HR2.out _).mono ?_); rintro e w' ⟨rfl, ⟨nd, rfl⟩⟩))
      go_ret2
      exact ⟨rfl, pw_below_drewN HB.out _⟩
/-- a pattern with a sign -/
def sg (neg : Bool) (p : Nat) : Nat := if neg then p + 9223372036854775808 else p
theorem s_sign (w : World) (neg : Bool) (p : Nat) (hp : p < 9223372036854775808) : Calls Tryz.prog 154 #[.int .u64 (p : Int), .bool neg] w fun e w' => e = .returned (.int .u64 ((sg neg p : Nat) : Int)) ∧ Drawn0 w w' := by
 refine soft_sign.calls _ _ _ w ?_
 unfold soft_sign.f sg
 cases neg with
 | true =>
  rw [if_pos rfl, if_pos rfl, show (9223372036854775808 : Int) = ((9223372036854775808 : Nat) : Int) from rfl, u64_or_nat _ _ (by omega) (by omega), Nat.or_comm, nat_join 63 _ _ (by decide) (by omega), Nat.add_comm]
 | false => rw [if_neg (by decide), if_neg (by decide)]
theorem s_double (w : World) : Calls Tryz.prog 155 #[] w fun e w' => e = .returned (.agg #[.int .i64 53, .int .i64 (-1074), .int .i64 971]) ∧ Below w.heap.size w w' := soft_double.calls _ _ _ w rfl
/-- round, of any number -/
theorem s_round (w : World) (M : Nat) (hM : M < 2 ^ 128) (h0 : 0 < M) (e : Int) (he : -300000 ≤ e) (he2 : e ≤ 300000) (r : Bool) :
  Calls Tryz.prog 156 #[.agg #[.int .i64 53, .int .i64 (-1074), .int .i64 971], .int .u64 (hiW M), .int .u64 (loW M), .int .i64 e, .bool r] w fun x w' => x = .returned (.tuple #[.int .u64 (((rnd M e (if r then 1 else 0)).1 : Nat) : Int), .int .i64 (rnd M e (if r then 1 else 0)).2]) ∧ Below w.heap.size w w' := by
 by_cases hq : expo M e ≤ e
 ·have := s_round_l w M hM h0 e he he2 r hq
  unfold rnd
  rw [if_pos hq]
  exact this
 ·exact s_round_r w M hM h0 e he he2 r (by omega)
theorem rnd_lt (M : Nat) (e : Int) (r : Nat) : (rnd M e r).1 < 9007199254740992 := by
 have hlt := Num.bitsN_lt M
 have hx : expo M e = max ((Num.bitsN M : Int) + e - 53) (-1074) := rfl
 unfold rnd
 by_cases hq : expo M e ≤ e
 ·rw [if_pos hq]
  show M * 2 ^ (e - expo M e).toNat < _
  have h1 : M * 2 ^ (e - expo M e).toNat < 2 ^ Num.bitsN M * 2 ^ (e - expo M e).toNat := Nat.mul_lt_mul_of_pos_right hlt (Nat.two_pow_pos _)
  rw [← Nat.pow_add] at h1
  exact Nat.lt_of_lt_of_le h1 (show 2 ^ _ ≤ 2 ^ 53 from Nat.pow_le_pow_right (by decide) (by omega))
 ·rw [if_neg hq]
  obtain ⟨t, ht⟩ : ∃ t : Nat, t = (expo M e - e - 1).toNat := ⟨_, rfl⟩
  rw [← ht]
  have hHs : M / 2 ^ t < 18014398509481984 := by
   rw [Nat.div_lt_iff_lt_mul (Nat.two_pow_pos t)]
   refine Nat.lt_of_lt_of_le hlt ?_
   rw [show (18014398509481984 : Nat) = 2 ^ 54 from rfl, ← Nat.pow_add]
   exact Nat.pow_le_pow_right (by decide) (by omega)
  have hh : hal M t r ≤ 9007199254740992 := by unfold hal; split <;> omega
  split
  ·show hal M t r / 2 < _
   omega
  ·show hal M t r < _
   omega
theorem rnd_ge (M : Nat) (e : Int) (r : Nat) : -1074 ≤ (rnd M e r).2 := by
 have := expo_ge M e
 unfold rnd
 split
 ·exact this
 ·split
  ·show -1074 ≤ expo M e + 1
   omega
  ·exact this
/-- an exponent, cut -/
def clamp (e : Int) : Int := min (max e (-100000)) 100000
set_option maxHeartbeats 4000000 in
theorem s_pack (w : World) (neg : Bool) (M : Nat) (hM : M < 2 ^ 128) (e : Int) (r : Bool) :
  Calls Tryz.prog 118 #[.bool neg, .int .u64 (hiW M), .int .u64 (loW M), .int .i64 e, .bool r] w fun x w' => x = .returned (.int .u64 ((sg neg (packN M (clamp e) (if r then 1 else 0)) : Nat) : Int)) ∧ Below w.heap.size w w' := by
 have h1 := hi_lt hM
 have h2 := lo_lt M
 have hor := u64_or_nat _ _ h1 h2
 have hz := or64_zero _ _ h1 h2
 have hd := Nat.div_add_mod M 18446744073709551616
 have HB := Aside0.mk (Below.refl w.heap.size w)
 obtain ⟨res, hres⟩ : ∃ z : Int, ((sg neg (packN M (clamp e) (if r then 1 else 0)) : Nat) : Int) = z := ⟨_, rfl⟩
 rw [hres]
 by_cases h0 : M = 0
 ·subst h0
  have hr : res = ((sg neg 0 : Nat) : Int) := by rw [← hres]; rfl
  have HS : Aside0 (∀ w, Calls Tryz.prog 154 #[.int .u64 0, .bool neg] w fun e w' => e = .returned (.int .u64 ((sg neg 0 : Nat) : Int)) ∧ Drawn0 w w') := ⟨fun w => s_sign w neg 0 (by decide)⟩
  have hor0 : bits .or .u64 (hiW 0) (loW 0) = 0 := hz.2 ⟨rfl, rfl⟩
  subst hr
  clear h1 h2 hor hz hd hres hM
  go_enter Tryz.func118, Tryz.ntmps118
  go_wp2_with (go_at_call 154; (with_reducible refine (HS.out _).mono ?_); rintro e w' ⟨rfl, ⟨nd, rfl⟩⟩)
  go_ret
  exact ⟨rfl, by repeat (first | exact HB.out | apply pw_below_drewN)⟩
 ·obtain ⟨o, ho⟩ : ∃ z : Int, bits .or .u64 (hiW M) (loW M) = z := ⟨_, rfl⟩
  have ho0 : o ≠ 0 := by
   intro h
   rw [h] at ho
   have := hz.1 ho
   omega
  have ho1 : (o == 0) = false := by simpa using ho0
  obtain ⟨e1, he1⟩ : ∃ z : Int, (if e < -100000 then -100000 else e) = z := ⟨_, rfl⟩
  obtain ⟨e2, he2⟩ : ∃ z : Int, (if 100000 < e1 then 100000 else e1) = z := ⟨_, rfl⟩
  have hc : clamp e = e2 := by unfold clamp; rw [← he2, ← he1]; split <;> split <;> omega
  have hb1 : -100000 ≤ e2 := by rw [← hc]; unfold clamp; omega
  have hb2 : e2 ≤ 100000 := by rw [← hc]; unfold clamp; omega
  rw [hc] at hres
  have HR := Aside0.mk (fun w => s_round w M hM (by omega) e2 (by omega) (by omega) r)
  have HD := Aside0.mk s_double
  obtain ⟨rr, hrr⟩ : ∃ z, rnd M e2 (if r then 1 else 0) = z := ⟨_, rfl⟩
  have hlt := rnd_lt M e2 (if r then 1 else 0)
  have hge := rnd_ge M e2 (if r then 1 else 0)
  unfold packN at hres
  rw [if_neg h0] at hres
  rw [hrr] at HR hlt hge hres
  obtain ⟨n, q⟩ := rr
  replace HR := HR.out
  replace hlt : n < 9007199254740992 := hlt
  replace hge : -1074 ≤ q := hge
  replace hres : ((sg neg (if 971 < q then 9218868437227405312 else if n < 4503599627370496 then n else (q + 1075).toNat * 4503599627370496 + (n - 4503599627370496)) : Nat) : Int) = res := hres
  replace HR := Aside0.mk HR
  have walk : ∀ (x : Nat), x < 9223372036854775808 → res = ((sg neg x : Nat) : Int) → ((971 < q ∧ x = 9218868437227405312) ∨ (¬ 971 < q ∧ n < 4503599627370496 ∧ x = n) ∨ (¬ 971 < q ∧ ¬ n < 4503599627370496 ∧ x = (q + 1075).toNat * 4503599627370496 + (n - 4503599627370496))) →
    Calls Tryz.prog 118 #[.bool neg, .int .u64 (hiW M), .int .u64 (loW M), .int .i64 e, .bool r] w fun x w' => x = .returned (.int .u64 res) ∧ Below w.heap.size w w' := by
   intro x hx hr hcase
   have HS := Aside0.mk (fun w => s_sign w neg x hx)
   rw [← hr] at HS
   obtain ⟨nn, hnn⟩ : ∃ z : Int, (n : Int) = z := ⟨_, rfl⟩
   rw [hnn] at HR
   rcases hcase with ⟨c, hx'⟩ | ⟨c, c2, hx'⟩ | ⟨c, c2, hx'⟩
   ·subst hx'
    replace HS : Aside0 (∀ w, Calls Tryz.prog 154 #[.int .u64 9218868437227405312, .bool neg] w fun e w' => e = .returned (.int .u64 res) ∧ Drawn0 w w') := HS
    have c' := decide_eq_true c
    clear h1 h2 hor hz hd hres hM hr hx hnn hlt hge hc hb1 hb2 hrr ho0 c h0
    go_enter Tryz.func118, Tryz.ntmps118
    go_wp2_with (first | (go_at_call 155; (with_reducible refine (HD.out _).mono ?_); rintro e w' ⟨rfl, hb⟩; have n0_ := Aside0.mk (below_step HB.out hb); clear HB hb; have HB := n0_; clear n0_) | (go_at_call 156; (with_reducible refine (HR.out _).mono ?_); rintro e w' ⟨rfl, hb⟩; have n0_ := Aside0.mk (below_step HB.out hb); clear HB hb; have HB := n0_; clear n0_) | (go_at_call 154; (with_reducible refine (HS.out _).mono ?_); rintro e w' ⟨rfl, ⟨nd, rfl⟩⟩))
    go_ret
    exact ⟨rfl, by repeat (first | exact HB.out | apply pw_below_drewN)⟩
   ·subst hx'
    rw [hnn] at HS
    have c' := decide_eq_false c
    have c2' := decide_eq_true (show nn < 4503599627370496 by omega)
    clear h1 h2 hor hz hd hres hM hr hx hnn hlt hge hc hb1 hb2 hrr ho0 c c2 h0
    go_enter Tryz.func118, Tryz.ntmps118
    go_wp2_with (first | (go_at_call 155; (with_reducible refine (HD.out _).mono ?_); rintro e w' ⟨rfl, hb⟩; have n0_ := Aside0.mk (below_step HB.out hb); clear HB hb; have HB := n0_; clear n0_) | (go_at_call 156; (with_reducible refine (HR.out _).mono ?_); rintro e w' ⟨rfl, hb⟩; have n0_ := Aside0.mk (below_step HB.out hb); clear HB hb; have HB := n0_; clear n0_) | (go_at_call 154; (with_reducible refine (HS.out _).mono ?_); rintro e w' ⟨rfl, ⟨nd, rfl⟩⟩))
    go_ret
    exact ⟨rfl, by repeat (first | exact HB.out | apply pw_below_drewN)⟩
   ·have c' := decide_eq_false c
    have c2' := decide_eq_false (show ¬ nn < 4503599627370496 by omega)
    obtain ⟨p, hp⟩ : ∃ p : Nat, p = (q + 1075).toNat := ⟨_, rfl⟩
    rw [← hp] at hx'
    obtain ⟨q1, hq1⟩ : ∃ z : Int, q + 1074 = z := ⟨_, rfl⟩
    have hw1 : wrap64 (q + 1074) = q1 := by rw [i64_id (by omega) (by omega)]; exact hq1
    have hw2 : wrap64 (q1 + 1) = (p : Int) := by rw [i64_id (by omega) (by omega)]; omega
    have hw3 : IntKind.u64.wrap (p : Int) = (p : Int) := by rw [IntKind.wrap_u64]; omega
    have hw4 : IntKind.u64.wrap ((p : Int) * 4503599627370496) = ((p * 4503599627370496 : Nat) : Int) := by rw [IntKind.wrap_u64]; omega
    have hand : bits .and .u64 nn 4503599627370495 = ((n - 4503599627370496 : Nat) : Int) := by
     rw [← hnn, show (4503599627370495 : Int) = ((4503599627370495 : Nat) : Int) from rfl, u64_and_nat _ _ (by omega) (by decide), show (4503599627370495 : Nat) = 2 ^ 52 - 1 from rfl, Nat.and_two_pow_sub_one_eq_mod]
     have : (2 : Nat) ^ 52 = 4503599627370496 := rfl
     omega
    have hor2 : bits .or .u64 ((p * 4503599627370496 : Nat) : Int) ((n - 4503599627370496 : Nat) : Int) = (x : Int) := by
     rw [u64_or_nat _ _ (by omega) (by omega), nat_join 52 _ _ (Nat.mul_mod_left _ _) (by have : (2 : Nat) ^ 52 = 4503599627370496 := rfl; omega), hx']
    obtain ⟨pp, hpp⟩ : ∃ z : Int, (p : Int) = z := ⟨_, rfl⟩
    rw [hpp] at hw2 hw3 hw4
    obtain ⟨y1, hy1⟩ : ∃ z : Int, ((p * 4503599627370496 : Nat) : Int) = z := ⟨_, rfl⟩
    obtain ⟨y2, hy2⟩ : ∃ z : Int, ((n - 4503599627370496 : Nat) : Int) = z := ⟨_, rfl⟩
    obtain ⟨xx, hxx⟩ : ∃ z : Int, (x : Int) = z := ⟨_, rfl⟩
    rw [hy1] at hw4 hor2
    rw [hy2] at hand hor2
    rw [hxx] at hor2 HS
    have hw1' : IntKind.i64.wrap (q + 1074) = q1 := (i64_w _).trans hw1
    have hw2' : IntKind.i64.wrap (q1 + 1) = pp := (i64_w _).trans hw2
    clear h1 h2 hor hz hd hres hM hr hx hnn hlt hge hc hb1 hb2 hrr ho0 c c2 h0 hx' hp hpp hy1 hy2 hxx hq1
    go_enter Tryz.func118, Tryz.ntmps118
    go_wp2_with (first | (go_at_call 155; (with_reducible refine (HD.out _).mono ?_); rintro e w' ⟨rfl, hb⟩; have n0_ := Aside0.mk (below_step HB.out hb); clear HB hb; have HB := n0_; clear n0_) | (go_at_call 156; (with_reducible refine (HR.out _).mono ?_); rintro e w' ⟨rfl, hb⟩; have n0_ := Aside0.mk (below_step HB.out hb); clear HB hb; have HB := n0_; clear n0_) | (go_at_call 154; (with_reducible refine (HS.out _).mono ?_); rintro e w' ⟨rfl, ⟨nd, rfl⟩⟩))
    go_ret
    exact ⟨rfl, by repeat (first | exact HB.out | apply pw_below_drewN)⟩
  by_cases c : 971 < q
  ·rw [if_pos c] at hres
   exact walk _ (by decide) hres.symm (.inl ⟨c, rfl⟩)
  ·rw [if_neg c] at hres
   by_cases c2 : n < 4503599627370496
   ·rw [if_pos c2] at hres
    exact walk _ (by omega) hres.symm (.inr (.inl ⟨c, c2, rfl⟩))
   ·rw [if_neg c2] at hres
    exact walk _ (by omega) hres.symm (.inr (.inr ⟨c, c2, rfl⟩))
end Go.Proofs.YtdoeigngpemcgaaGreatDoor.Dec
namespace Go.Proofs.YtdoeigngpemcgaaGreatDoor.Dec
open Go.RowKit Go.Flt Go.Proofs.YtdoeigngpemcgaaGreatDoor.PDec Go.Proofs.YtdoeigngpemcgaaGreatDoor.Pure Go.Proofs.YtdoeigngpemcgaaGreatDoorW.PrintWords Go.Proofs.YtdoeigngpemcgaaGreatDoorW.PrintLast Go.Proofs.YtdoeigngpemcgaaGreatDoorW.PrintMore
set_option linter.unusedVariables false
set_option linter.unusedSimpArgs false
/-- a float's parts -/
def fneg (a : Nat) : Bool := decide (9223372036854775808 ≤ a)
def fexp (a : Nat) : Nat := a / 4503599627370496 % 2048
def fmant (a : Nat) : Nat := if fexp a = 0 then a % 4503599627370496 else a % 4503599627370496 + 4503599627370496
def fpow (a : Nat) : Int := if fexp a = 0 then -1074 else (fexp a : Int) - 1075
theorem s_isNeg (w : World) (a : Nat) (ha : a < 18446744073709551616) : Calls Tryz.prog 109 #[.int .u64 (a : Int)] w fun e w' => e = .returned (.bool (fneg a)) ∧ Drawn0 w w' := by
 refine soft_isNeg.calls _ _ w ?_
 unfold soft_isNeg.f fneg
 congr 1
 rw [Bool.eq_iff_iff, beq_iff_eq, decide_eq_true_iff]
 omega
set_option maxHeartbeats 4000000 in
set_option maxRecDepth 100000 in
theorem s_split (w : World) (a : Nat) (ha : a < 18446744073709551616) : Calls Tryz.prog 84 #[.int .u64 (a : Int)] w fun e w' => e = .returned (.agg #[.bool (fneg a), .int .u64 ((fmant a : Nat) : Int), .int .i64 (fpow a)]) ∧ Below w.heap.size w w' := by
 have hu102 := Tryz.underlying102
 have HB := Aside0.mk (Below.refl w.heap.size w)
 have HN := Aside0.mk (fun w => s_isNeg w a ha)
 obtain ⟨neg, hneg⟩ : ∃ z, fneg a = z := ⟨_, rfl⟩
 rw [hneg] at HN ⊢
 obtain ⟨aa, haa⟩ : ∃ z : Int, (a : Int) = z := ⟨_, rfl⟩
 obtain ⟨y, hy⟩ : ∃ z : Int, aa / 4503599627370496 = z := ⟨_, rfl⟩
 obtain ⟨x, hx⟩ : ∃ z : Int, ((fexp a : Nat) : Int) = z := ⟨_, rfl⟩
 obtain ⟨f, hf⟩ : ∃ z : Int, ((a % 4503599627370496 : Nat) : Int) = z := ⟨_, rfl⟩
 have hx0 : fexp a < 2048 := Nat.mod_lt _ (by decide)
 have hand : bits .and .u64 y 2047 = x := by
  rw [← hy, ← haa, ← hx, show ((a : Int) / 4503599627370496) = ((a / 4503599627370496 : Nat) : Int) by omega, show (2047 : Int) = ((2047 : Nat) : Int) from rfl, u64_and_nat _ _ (by omega) (by decide), show (2047 : Nat) = 2 ^ 11 - 1 from rfl, Nat.and_two_pow_sub_one_eq_mod]
  try rfl
 have hfr : bits .and .u64 aa 4503599627370495 = f := by
  rw [← haa, ← hf, show (4503599627370495 : Int) = ((4503599627370495 : Nat) : Int) from rfl, u64_and_nat _ _ ha (by decide), show (4503599627370495 : Nat) = 2 ^ 52 - 1 from rfl, Nat.and_two_pow_sub_one_eq_mod]
  try rfl
 have hor : bits .or .u64 f 4503599627370496 = f + 4503599627370496 := by
  rw [← hf, show (4503599627370496 : Int) = ((4503599627370496 : Nat) : Int) from rfl, u64_or_nat _ _ (by omega) (by decide), Nat.or_comm, nat_join 52 _ _ (by decide) (by have : (2 : Nat) ^ 52 = 4503599627370496 := rfl; omega)]
  omega
 have hw1 : IntKind.i64.wrap x = x := i64w_id (by omega) (by omega)
 have hw1' : wrap64 x = x := i64_id (by omega) (by omega)
 rw [haa] at HN ⊢
 by_cases c : fexp a = 0
 ·have hm : ((fmant a : Nat) : Int) = f := by unfold fmant; rw [if_pos c, hf]
  have hp : fpow a = -1074 := by unfold fpow; rw [if_pos c]
  rw [hm, hp]
  have c1 := decide_eq_false (show ¬ (0 : Int) < x by omega)
  clear hor hx hx0 hf hneg haa hm hp c ha
  go_enter Tryz.func84, Tryz.ntmps84
  go_wp2_with (first | ((with_reducible refine gate_dst (N := 2) rfl ?_); refine box_event ?hg (N := 2) ?hd (cs := #[.bool false, .int .u64 0, .int .i64 0]) (t := 102) ?hr ?_; (case hd => rfl); (case hg => rfl); (case hr => first | (go_simp; done) | (go_simp; rfl)); intro g1 hg w4 hbox hb; have n0_ := Aside0.mk (below_step HB.out hb); have n1_ := Aside0.mk hbox; have n2_ := Aside0.mk ((by rw [hg]; exact (below_size HB.out)) : w.heap.size ≤ g1); clear HB; have HB := n0_; have BK := n1_; have GE := n2_; clear n0_ n1_ n2_; clear hb hbox hg) | (go_at_call 109; (with_reducible refine (HN.out _).mono ?_); rintro e w' ⟨rfl, ⟨nd, rfl⟩⟩) | ((with_reducible refine gate_dst (N := 3) rfl ?_); refine box_event ?hg (N := 3) ?hd (cs := #[.bool false, .int .u64 0, .int .i64 0]) (t := 102) ?hr ?_; (case hd => rfl); (case hg => rfl); (case hr => first | (go_simp; done) | (go_simp; rfl)); intro g2 hg w5 hbox hb; have n0_ := Aside0.mk (blk_below (g := g1) (by (with_reducible repeat (first | refine blk_drewN ?_ _ | refine blk_drew ?_ | refine blk_alloc ?_ _)); exact BK.out) hb); have n1_ := Aside0.mk (below_step (by repeat (first | (with_reducible first | exact HB.out | apply below_alloc | apply pw_below_drewN | apply below_drew1) | exact HB.out)) hb); have n2_ := Aside0.mk hbox; have n3_ := Aside0.mk ((by rw [hg]; exact (below_size (by repeat (first | (with_reducible first | exact HB.out | apply below_alloc | apply pw_below_drewN | apply below_drew1) | exact HB.out))) : w.heap.size ≤ g2)); have n4_ := Aside0.mk ((by rw [hg]; exact Nat.ne_of_lt (blk_lt (g := g1) (by (with_reducible repeat (first | refine blk_drewN ?_ _ | refine blk_drew ?_ | refine blk_alloc ?_ _)); exact BK.out)) : g1 ≠ g2)); clear BK HB; have BK := n0_; have HB := n1_; have BK2 := n2_; have GE2 := n3_; have NE := n4_; clear n0_ n1_ n2_ n3_ n4_; clear hb hbox hg; have ne1 := NE.out; have ne2 := NE.out.symm; have z0 : w5.cell? ⟨g2, 0, none⟩ = some (.bool false) := (blk_cell BK2.out 0).trans rfl; have z1 : w5.cell? ⟨g2, 1, none⟩ = some (.int .u64 0) := (blk_cell BK2.out 1).trans rfl; have z2 : w5.cell? ⟨g2, 2, none⟩ = some (.int .i64 0) := (blk_cell BK2.out 2).trans rfl; have f0 := blk_frozen BK2.out 0; have f1 := blk_frozen BK2.out 1; have f2 := blk_frozen BK2.out 2; have y0 : w5.cell? ⟨g1, 0, none⟩ = some (.bool false) := (blk_cell BK.out 0).trans rfl; have y1 : w5.cell? ⟨g1, 1, none⟩ = some (.int .u64 0) := (blk_cell BK.out 1).trans rfl; have y2 : w5.cell? ⟨g1, 2, none⟩ = some (.int .i64 0) := (blk_cell BK.out 2).trans rfl; have h0 := blk_frozen BK.out 0; have h1 := blk_frozen BK.out 1; have h2 := blk_frozen BK.out 2))
  refine bodyPost_ret (results_cell_row rfl _ _ g1 102 #[.bool neg, .int .u64 f, .int .i64 (-1074)] (0, 0) _ rfl (by refine blk_put (cs := #[.bool neg, .int .u64 f, .int .i64 0]) ?_ 2 _ rfl; refine blk_put (cs := #[.bool neg, .int .u64 0, .int .i64 0]) ?_ 1 _ rfl; refine blk_put (cs := #[.bool false, .int .u64 0, .int .i64 0]) ?_ 0 _ rfl; refine blk_far ?_ NE.out _; refine blk_far ?_ NE.out _; refine blk_far ?_ NE.out _; exact BK.out) Tryz.underlying102 rfl (by kernel_rfl)) rfl ?_
  exact ⟨rfl, by repeat (first | exact HB.out | refine below_set ?_ GE.out | refine below_set ?_ GE2.out)⟩
 ·obtain ⟨m, hm'⟩ : ∃ z : Int, f + 4503599627370496 = z := ⟨_, rfl⟩
  have hm : ((fmant a : Nat) : Int) = m := by unfold fmant; rw [if_neg c]; omega
  obtain ⟨e, he'⟩ : ∃ z : Int, x - 1075 = z := ⟨_, rfl⟩
  have hp : fpow a = e := by unfold fpow; rw [if_neg c]; omega
  rw [hm, hp]
  rw [hm'] at hor
  have c1 := decide_eq_true (show (0 : Int) < x by omega)
  obtain ⟨x1, hx1⟩ : ∃ z : Int, x - 1 = z := ⟨_, rfl⟩
  have hw2 : IntKind.i64.wrap (x - 1) = x1 := by rw [i64w_id (by omega) (by omega)]; exact hx1
  have hw3 : IntKind.i64.wrap (x1 + -1074) = e := by rw [i64w_id (by omega) (by omega)]; omega
  have hw2' : wrap64 (x - 1) = x1 := by rw [i64_id (by omega) (by omega)]; exact hx1
  have hw3' : wrap64 (x1 + -1074) = e := by rw [i64_id (by omega) (by omega)]; omega
  clear hx hx0 hf hneg haa hm hp c ha hm' he' hx1
  go_enter Tryz.func84, Tryz.ntmps84
  go_upto_region 4 with (first | ((with_reducible refine gate_dst (N := 2) rfl ?_); refine box_event ?hg (N := 2) ?hd (cs := #[.bool false, .int .u64 0, .int .i64 0]) (t := 102) ?hr ?_; (case hd => rfl); (case hg => rfl); (case hr => first | (go_simp; done) | (go_simp; rfl)); intro g1 hg w4 hbox hb; have n0_ := Aside0.mk (below_step HB.out hb); have n1_ := Aside0.mk hbox; have n2_ := Aside0.mk ((by rw [hg]; exact (below_size HB.out)) : w.heap.size ≤ g1); clear HB; have HB := n0_; have BK := n1_; have GE := n2_; clear n0_ n1_ n2_; clear hb hbox hg) | (go_at_call 109; (with_reducible refine (HN.out _).mono ?_); rintro e w' ⟨rfl, ⟨nd, rfl⟩⟩) | ((with_reducible refine gate_dst (N := 3) rfl ?_); refine box_event ?hg (N := 3) ?hd (cs := #[.bool false, .int .u64 0, .int .i64 0]) (t := 102) ?hr ?_; (case hd => rfl); (case hg => rfl); (case hr => first | (go_simp; done) | (go_simp; rfl)); intro g2 hg w5 hbox hb; have n0_ := Aside0.mk (blk_below (g := g1) (by (with_reducible repeat (first | refine blk_drewN ?_ _ | refine blk_drew ?_ | refine blk_alloc ?_ _)); exact BK.out) hb); have n1_ := Aside0.mk (below_step (by repeat (first | (with_reducible first | exact HB.out | apply below_alloc | apply pw_below_drewN | apply below_drew1) | exact HB.out)) hb); have n2_ := Aside0.mk hbox; have n3_ := Aside0.mk ((by rw [hg]; exact (below_size (by repeat (first | (with_reducible first | exact HB.out | apply below_alloc | apply pw_below_drewN | apply below_drew1) | exact HB.out))) : w.heap.size ≤ g2)); have n4_ := Aside0.mk ((by rw [hg]; exact Nat.ne_of_lt (blk_lt (g := g1) (by (with_reducible repeat (first | refine blk_drewN ?_ _ | refine blk_drew ?_ | refine blk_alloc ?_ _)); exact BK.out)) : g1 ≠ g2)); clear BK HB; have BK := n0_; have HB := n1_; have BK2 := n2_; have GE2 := n3_; have NE := n4_; clear n0_ n1_ n2_ n3_ n4_; clear hb hbox hg; have ne1 := NE.out; have ne2 := NE.out.symm; have z0 : w5.cell? ⟨g2, 0, none⟩ = some (.bool false) := (blk_cell BK2.out 0).trans rfl; have z1 : w5.cell? ⟨g2, 1, none⟩ = some (.int .u64 0) := (blk_cell BK2.out 1).trans rfl; have z2 : w5.cell? ⟨g2, 2, none⟩ = some (.int .i64 0) := (blk_cell BK2.out 2).trans rfl; have f0 := blk_frozen BK2.out 0; have f1 := blk_frozen BK2.out 1; have f2 := blk_frozen BK2.out 2; have y0 : w5.cell? ⟨g1, 0, none⟩ = some (.bool false) := (blk_cell BK.out 0).trans rfl; have y1 : w5.cell? ⟨g1, 1, none⟩ = some (.int .u64 0) := (blk_cell BK.out 1).trans rfl; have y2 : w5.cell? ⟨g1, 2, none⟩ = some (.int .i64 0) := (blk_cell BK.out 2).trans rfl; have h0 := blk_frozen BK.out 0; have h1 := blk_frozen BK.out 1; have h2 := blk_frozen BK.out 2))
  generalize hW : World.setCell _ _ _ = w6
  have n0_ := Aside0.mk (show w6.heap[g2]? = some (.cells #[.bool neg, .int .u64 f, .int .i64 (-1074)] 102 (0, 0)) by rw [← hW]; refine blk_put (cs := #[.bool neg, .int .u64 f, .int .i64 0]) ?_ 2 _ rfl; refine blk_put (cs := #[.bool neg, .int .u64 0, .int .i64 0]) ?_ 1 _ rfl; refine blk_put (cs := #[.bool false, .int .u64 0, .int .i64 0]) ?_ 0 _ rfl; exact BK2.out)
  have n1_ := Aside0.mk (show w6.heap[g1]? = some (.cells #[.bool false, .int .u64 0, .int .i64 0] 102 (0, 0)) by rw [← hW]; refine blk_far ?_ NE.out _; refine blk_far ?_ NE.out _; refine blk_far ?_ NE.out _; exact BK.out)
  have n2_ := Aside0.mk (show Below w.heap.size w w6 by rw [← hW]; repeat (first | exact HB.out | refine below_set ?_ GE2.out))
  clear BK BK2 HB hW z0 z1 z2 f0 f1 f2 y0 y1 y2 h0 h1 h2
  have BK2 := n0_
  have BK := n1_
  have HB := n2_
  clear n0_ n1_ n2_
  have z1 : w6.cell? ⟨g2, 1, none⟩ = some (.int .u64 f) := (blk_cell BK2.out 1).trans rfl
  have f1 := blk_frozen BK2.out 1
  go_upto_region 5 with (go_at_call 9999; skip)
  generalize hW : World.setCell _ _ _ = w7
  have n0_ := Aside0.mk (show w7.heap[g2]? = some (.cells #[.bool neg, .int .u64 m, .int .i64 (-1074)] 102 (0, 0)) by rw [← hW]; refine blk_put (cs := #[.bool neg, .int .u64 f, .int .i64 (-1074)]) ?_ 1 _ rfl; exact BK2.out)
  have n1_ := Aside0.mk (show w7.heap[g1]? = some (.cells #[.bool false, .int .u64 0, .int .i64 0] 102 (0, 0)) by rw [← hW]; refine blk_far ?_ NE.out _; exact BK.out)
  have n2_ := Aside0.mk (show Below w.heap.size w w7 by rw [← hW]; repeat (first | exact HB.out | refine below_set ?_ GE2.out))
  clear BK BK2 HB hW z1 f1
  have BK2 := n0_
  have BK := n1_
  have HB := n2_
  clear n0_ n1_ n2_
  have f2 := blk_frozen BK2.out 2
  have z2 : w7.cell? ⟨g2, 2, none⟩ = some (.int .i64 (-1074)) := (blk_cell BK2.out 2).trans rfl
  go_upto_region 6 with (go_at_call 9999; skip)
  generalize hW : World.setCell _ _ _ = w8
  have n0_ := Aside0.mk (show w8.heap[g2]? = some (.cells #[.bool neg, .int .u64 m, .int .i64 e] 102 (0, 0)) by rw [← hW]; refine blk_put (cs := #[.bool neg, .int .u64 m, .int .i64 (-1074)]) ?_ 2 _ rfl; exact BK2.out)
  have n1_ := Aside0.mk (show w8.heap[g1]? = some (.cells #[.bool false, .int .u64 0, .int .i64 0] 102 (0, 0)) by rw [← hW]; refine blk_far ?_ NE.out _; exact BK.out)
  have n2_ := Aside0.mk (show Below w.heap.size w w8 by rw [← hW]; repeat (first | exact HB.out | refine below_set ?_ GE2.out))
  clear BK BK2 HB hW z2 f2
  have BK2 := n0_
  have BK := n1_
  have HB := n2_
  clear n0_ n1_ n2_
  have z0 : w8.cell? ⟨g2, 0, none⟩ = some (.bool neg) := (blk_cell BK2.out 0).trans rfl
  have z1 : w8.cell? ⟨g2, 1, none⟩ = some (.int .u64 m) := (blk_cell BK2.out 1).trans rfl
  have z2 : w8.cell? ⟨g2, 2, none⟩ = some (.int .i64 e) := (blk_cell BK2.out 2).trans rfl
  have y0 : w8.cell? ⟨g1, 0, none⟩ = some (.bool false) := (blk_cell BK.out 0).trans rfl
  have y1 : w8.cell? ⟨g1, 1, none⟩ = some (.int .u64 0) := (blk_cell BK.out 1).trans rfl
  have y2 : w8.cell? ⟨g1, 2, none⟩ = some (.int .i64 0) := (blk_cell BK.out 2).trans rfl
  have h0 := blk_frozen BK.out 0
  have h1 := blk_frozen BK.out 1
  have h2 := blk_frozen BK.out 2
  go_wp2
  refine bodyPost_ret (results_cell_row rfl _ _ g1 102 #[.bool neg, .int .u64 m, .int .i64 e] (0, 0) _ rfl (by refine blk_put (cs := #[.bool neg, .int .u64 m, .int .i64 0]) ?_ 2 _ rfl; refine blk_put (cs := #[.bool neg, .int .u64 0, .int .i64 0]) ?_ 1 _ rfl; refine blk_put (cs := #[.bool false, .int .u64 0, .int .i64 0]) ?_ 0 _ rfl; exact BK.out) Tryz.underlying102 rfl (by kernel_rfl)) rfl ?_
  exact ⟨rfl, by repeat (first | exact HB.out | refine below_set ?_ GE.out | refine below_set ?_ GE2.out)⟩
end Go.Proofs.YtdoeigngpemcgaaGreatDoor.Dec
namespace Go.Num
end Go.Num
namespace Go.Proofs.YtdoeigngpemcgaaGreatDoor.PNat
open Go.RowKit Go.Proofs.YtdoeigngpemcgaaGreatDoorW.PrintWords Go.Proofs.YtdoeigngpemcgaaGreatDoorW.PrintLast Go.Proofs.YtdoeigngpemcgaaGreatDoorW.PrintMore
attribute [local go_sem] max2_int min2_int max_two min_two max_three min_three max_four min_four
set_option linter.unusedVariables false
set_option linter.unusedSimpArgs false
-- the values' own types
theorem ow_C_len {α : Type} {d : Kd α} {w : World} {A : Option Addr} {n m : Nat} {xs : List α} (h : n = m) (hc : d.C w A n xs) : d.C w A m xs := h ▸ hc
end Go.Proofs.YtdoeigngpemcgaaGreatDoor.PNat
namespace Go.Proofs
open Go.Shelf
end Go.Proofs
namespace Go.Proofs.YtdoeigngpemcgaaGreatDoor.PNat
open Go.RowKit Go.Proofs.YtdoeigngpemcgaaGreatDoorW.PrintWords Go.Proofs.YtdoeigngpemcgaaGreatDoorW.PrintLast Go.Proofs.YtdoeigngpemcgaaGreatDoorW.PrintMore
attribute [local go_sem] max2_int min2_int max_two min_two max_three min_three max_four min_four
set_option linter.unusedVariables false
set_option linter.unusedSimpArgs false
-- IMPORT Derived.Test.YtdoeigngpemcgaaGreatDoorShelf
-- IMPORT Derived.Lib.Builder
-- IMPORT Derived.Laws.CopyOwn
-- IMPORT Derived.RangeFuncNested
-- IMPORT Derived.RangeFuncBox
-- IMPORT Derived.RangeFuncLeaves
-- IMPORT Derived.RangeFuncBound
-- IMPORT Derived.RangeFuncCalls
-- IMPORT Derived.Shelf.Abstract
-- IMPORT Derived.OwnWalkIn
-- IMPORT Derived.TacticsInMore
-- IMPORT Derived.LoopNIn
-- IMPORT Derived.LoopIn
-- IMPORT Derived.Shelf.Strings.Builder1
-- IMPORT Derived.Shelf.Strings.Trim
-- IMPORT Derived.Shelf.Strings.BuilderK
def bobbinref2_Norm.l0 : Nat → List Int → Int → Option (List Int)
 | 0, _, _ => none
 | k + 1, x0, x3 => if x3 > 0 then (if 0 ≤ (wrap64 (x3 - 1)) then (if (wrap64 (x3 - 1)) < (x0.length : Int) then (if (rd x0 (wrap64 (x3 - 1))) = 0 then (bobbinref2_Norm.l0 k x0 (wrap64 (x3 - 1))) else (if 0 ≤ x3 then (if x3 ≤ (x0.length : Int) then (if ([] : List Int).length + (x0.take (x3 : Int).toNat).length < 35184372088832 then (some (([] : List Int) ++ (x0.take (x3 : Int).toNat))) else (none)) else (none)) else (none))) else (none)) else (none)) else (if 0 ≤ x3 then (if x3 ≤ (x0.length : Int) then (if ([] : List Int).length + (x0.take (x3 : Int).toNat).length < 35184372088832 then (some (([] : List Int) ++ (x0.take (x3 : Int).toNat))) else (none)) else (none)) else (none))
def bobbinref2_Norm.f (k : Nat) (l0 : List Int) : Option (List Int) := bobbinref2_Norm.l0 k l0 (l0.length : Int)
set_option maxHeartbeats 8000000 in
set_option maxRecDepth 100000 in
theorem bobbinref2_Norm.calls (k : Nat) (A0 : Option Addr) (c0 : Nat) (l0 : List Int) (r : List Int) (w : World) (hr0 : Kd.C (Kd.int .u32) w A0 l0.length l0) (hc0 : l0.length ≤ c0) (h : bobbinref2_Norm.f k l0 = some r) :
  Calls Tryz.prog 99 #[.slice A0 l0.length c0] w fun e w' => ∃ v0_ : Value, e = .returned (v0_) ∧ Kd.R (Kd.int .u32) 35 w' w.heap.size (fun _ => True) v0_ r ∧ Below w.heap.size w w' := by
 have HR0 := Aside0.mk hr0
 have HC0 := Aside0.mk hc0
 clear hr0 hc0
 have HB := Aside0.mk (Below.refl w.heap.size w)
 have H : (bobbinref2_Norm.l0 k l0 (l0.length : Int)) = some r := h
 clear h
 have H' := Aside0.mk H
 clear H
 go_enter Tryz.func99, Tryz.ntmps99
 go_wp2
 go_loopg [3] k (fun kq v3 w' => ∃ (x3_1 : Int), v3 = .int .i64 x3_1 ∧ Aside0 (bobbinref2_Norm.l0 kq l0 x3_1 = some r) ∧ Aside0 (kq ≤ k) ∧ Aside0 (Below w.heap.size w w'))
 case atStart => exact ⟨((l0.length : Int)), (by first | rfl | (simp; done) | (simp [*]; done)), H', ⟨Nat.le_refl _⟩, ⟨by repeat (first | (with_reducible first | exact HB.out | apply below_alloc | apply pw_below_drewN | apply below_drew1) | exact HB.out)⟩⟩
 case round =>
  clear H'
  obtain ⟨x3_1, rfl, HA, HK1, HB⟩ := hrel
  cases gk with
  | zero => exact absurd HA.out (by simp [bobbinref2_Norm.l0])
  | succ k1 =>
   have H := HA.out
   clear HA
   simp only [bobbinref2_Norm.l0] at H
   by_cases c2 : x3_1 > 0
   ·rw [if_pos c2] at H
    have c2b0 : decide (0 < x3_1) = true := decide_eq_true c2
    clear c2
    obtain ⟨ji3, hji3⟩ : ∃ j_ : Int, (wrap64 (x3_1 - 1)) = j_ := ⟨_, rfl⟩
    replace H : (if 0 ≤ (ji3) then (if (ji3) < (l0.length : Int) then (if (rd l0 (ji3)) = 0 then (bobbinref2_Norm.l0 k1 l0 ji3) else (if 0 ≤ x3_1 then (if x3_1 ≤ (l0.length : Int) then (if ([] : List Int).length + (l0.take (x3_1 : Int).toNat).length < 35184372088832 then (some (([] : List Int) ++ (l0.take (x3_1 : Int).toNat))) else (none)) else (none)) else (none))) else (none)) else (none)) = some r := by first | (rw [hji3] at H; exact H) | (simp only [hji3] at H ⊢; exact H)
    have hji3w : (IntKind.i64.wrap (x3_1 - 1)) = ji3 := (i64_w _).trans hji3
    by_cases c4 : 0 ≤ (ji3)
    ·rw [if_pos c4] at H
     have c4b0 : decide (0 ≤ (ji3)) = true := decide_eq_true c4
     clear c4
     by_cases c5 : (ji3) < (l0.length : Int)
     ·rw [if_pos c5] at H
      have c5b0 : decide ((ji3) < (l0.length : Int)) = true := decide_eq_true c5
      clear c5
      by_cases c6 : (rd l0 (ji3)) = 0
      ·rw [if_pos c6] at H
       have c6b0 : ((rd l0 (ji3)) == 0) = true := beq_iff_eq.mpr c6
       have c6b1 : ((rd l0 (ji3)) != 0) = false := bne_eq_false_iff_eq.mpr c6
       clear c6
       have H' := Aside0.mk H
       clear H
       have p139 : 0 ≤ ((ji3) : Int) := of_decide_eq_true (by first | (with_reducible assumption) | assumption)
       have q139 : (ji3) < (l0.length : Int) := of_decide_eq_true (by first | (with_reducible assumption) | assumption)
       obtain ⟨ad139, e139, hx139_0⟩ := Kd.at_int HR0.out (ji3) p139 q139
       cases e139
       replace hx139_0 := (HB.out.cell (World.block_lt_of_cell? w _ hx139_0)).trans hx139_0
       replace p139 := eq_true p139
       replace q139 := eq_true q139
       go_wp2
       go_roundg k1
       case measure => have := HK1.out; omega
       case rel => exact ⟨(ji3), (by first | rfl | (simp; done) | (simp only [← hji3] <;> (first | rfl | simp)) | (simp [*]; done)), H', ⟨by have := HK1.out; omega⟩, ⟨by repeat (first | (with_reducible first | exact HB.out | apply below_alloc | apply pw_below_drewN | apply below_drew1) | exact HB.out)⟩⟩
      ·rw [if_neg c6] at H
       have c6b0 : ((rd l0 (ji3)) == 0) = false := beq_eq_false_iff_ne.mpr c6
       have c6b1 : ((rd l0 (ji3)) != 0) = true := bne_iff_ne.mpr c6
       by_cases c7 : 0 ≤ x3_1
       ·rw [if_pos c7] at H
        have c7b0 := eq_true c7
        have c7b1 : decide (0 ≤ x3_1) = true := decide_eq_true c7
        clear c7
        by_cases c8 : x3_1 ≤ (l0.length : Int)
        ·rw [if_pos c8] at H
         have c8b0 := eq_true c8
         have c8b1 : decide (x3_1 ≤ (l0.length : Int)) = true := decide_eq_true c8
         clear c8
         by_cases c9 : ([] : List Int).length + (l0.take (x3_1 : Int).toNat).length < 35184372088832
         ·rw [if_pos c9] at H
          have LMc9 := Aside0.mk c9
          clear c9
          obtain ⟨y141, hy141⟩ : ∃ y_ : List Int, y_ = (([] : List Int) ++ (l0.take (x3_1 : Int).toNat)) := ⟨_, rfl⟩
          replace H : (some y141) = some r := by first | (rw [hy141]; with_reducible exact H) | (have H2_ := (Option.bind_some _ _).symm.trans H; rw [hy141]; with_reducible exact H2_) | (have H2_ := (Option.bind_some _ _).symm.trans H; with_reducible exact H2_) | with_reducible exact H | (rw [hy141]; exact H) | exact H
          have Ny141 := Aside0.mk hy141
          clear hy141
          obtain rfl := Option.some.inj H
          have p139 : 0 ≤ ((ji3) : Int) := of_decide_eq_true (by first | (with_reducible assumption) | assumption)
          have q139 : (ji3) < (l0.length : Int) := of_decide_eq_true (by first | (with_reducible assumption) | assumption)
          obtain ⟨ad139, e139, hx139_0⟩ := Kd.at_int HR0.out (ji3) p139 q139
          cases e139
          replace hx139_0 := (HB.out.cell (World.block_lt_of_cell? w _ hx139_0)).trans hx139_0
          replace p139 := eq_true p139
          replace q139 := eq_true q139
          obtain ⟨i010, hi010, _, hsz10, _⟩ := info_parts info35
          obtain ⟨hcut10, hA10, hC10⟩ := print_take_of (P := Tryz.prog) (Value.int .u32) 0 58 35 .i64 Tryz.underlying58 hi010 hsz10 (some ad139) c0 l0 x3_1 (of_decide_eq_true (by first | (with_reducible assumption) | assumption)) (of_decide_eq_true (by first | (with_reducible assumption) | assumption)) HC0.out
          have HR140 := Aside0.mk (Kd.C_of_reads (h1 := fun _ => rfl) (hA10 _ (Kd.reads_of_C HR0.out)))
          have HC140 := Aside0.mk hC10
          clear hA10 hC10 hi010 hsz10
          go_wp2_with (first | ((with_reducible refine gate_builtin (b := .append) (xs := #[.tmp 19, .tmp 22]) rfl ?_); at_builtin; refine Kd.R_append_rows (Kd.int .u32) (w0 := w) w.heap.size rfl (.tmp 19) (.tmp 22) 58 35 (.int .u32 0) 4 rfl Tryz.underlying58 info35 rfl (by decide) (by omega) (.slice none 0 0) ([] : List Int) (l0.take (x3_1 : Int).toNat) _ _ _ (fun _ => True) (fun _ => False) rfl rfl ?aO ?aR (fun _ _ h => h) (fun _ h => h.elim) ?aF ?aB ?aS ?aL ?_; (case aR => first | (rw [← show (l0.take (x3_1 : Int).toNat).length = x3_1.toNat from (by rw [List.length_take]; have h_ : (x3_1 : Int) ≤ (l0.length : Int) := of_decide_eq_true (by first | (with_reducible assumption) | assumption); omega)]; fail) | (refine ow_C_len (d := (Kd.int .u32)) (show (l0.take (x3_1 : Int).toNat).length = x3_1.toNat from (by rw [List.length_take]; have h_ : (x3_1 : Int) ≤ (l0.length : Int) := of_decide_eq_true (by first | (with_reducible assumption) | assumption); omega)) ?_; repeat (first | exact (Kd.C_below HR140.out HB.out) | (with_reducible refine Kd.C_alloc ?_ _) | (with_reducible refine Kd.C_drewN ?_ _) | (with_reducible refine Kd.C_drew ?_)))); (case aB => exact (by repeat (first | (with_reducible first | exact HB.out | apply below_alloc | apply pw_below_drewN | apply below_drew1) | exact HB.out))); (case aF => exact (fun _ _ => trivial)); (case aO => exact ((Kd.R_nil _ _ _ _ (fun _ => True)))); (case aS => exact (below_size (by repeat (first | (with_reducible first | exact HB.out | apply below_alloc | apply pw_below_drewN | apply below_drew1) | exact HB.out)))); (case aL => have := LMc9.out; have hlx_ := (show (l0.take (x3_1 : Int).toNat).length = x3_1.toNat from (by rw [List.length_take]; have h_ : (x3_1 : Int) ≤ (l0.length : Int) := of_decide_eq_true (by first | (with_reducible assumption) | assumption); omega)); omega); intro v142 w11 ho hb hg hat; rw [← Ny141.out] at ho; have n0_ := Aside0.mk (hb); have n1_ := Aside0.mk (ho); clear HB; have HB := n0_; have HO143 := n1_; clear n0_ n1_; clear ho hb hg hat))
          go_ret
          exact ⟨_, by first | rfl | (simp [errW_none, errW_some] <;> rfl) | (simp only [← hji3]; first | rfl | (simp [errW_none, errW_some] <;> rfl)) | (simp [*, errW_none, errW_some] <;> rfl), by (with_reducible repeat (first | apply Kd.R_alloc | apply Kd.R_drewN | apply Kd.R_drew)); exact HO143.out, by repeat (first | (with_reducible first | exact HB.out | apply below_alloc | apply pw_below_drewN | apply below_drew1) | exact HB.out)⟩
         ·rw [if_neg c9] at H
          exact absurd H (by simp)
        ·rw [if_neg c8] at H
         exact absurd H (by simp)
       ·rw [if_neg c7] at H
        exact absurd H (by simp)
     ·rw [if_neg c5] at H
      exact absurd H (by simp)
    ·rw [if_neg c4] at H
     exact absurd H (by simp)
   ·rw [if_neg c2] at H
    have c2b0 : decide (0 < x3_1) = false := decide_eq_false c2
    clear c2
    by_cases c12 : 0 ≤ x3_1
    ·rw [if_pos c12] at H
     have c12b0 := eq_true c12
     have c12b1 : decide (0 ≤ x3_1) = true := decide_eq_true c12
     clear c12
     by_cases c13 : x3_1 ≤ (l0.length : Int)
     ·rw [if_pos c13] at H
      have c13b0 := eq_true c13
      have c13b1 : decide (x3_1 ≤ (l0.length : Int)) = true := decide_eq_true c13
      clear c13
      by_cases c14 : ([] : List Int).length + (l0.take (x3_1 : Int).toNat).length < 35184372088832
      ·rw [if_pos c14] at H
       have LMc14 := Aside0.mk c14
       clear c14
       obtain ⟨y145, hy145⟩ : ∃ y_ : List Int, y_ = (([] : List Int) ++ (l0.take (x3_1 : Int).toNat)) := ⟨_, rfl⟩
       replace H : (some y145) = some r := by first | (rw [hy145]; with_reducible exact H) | (have H2_ := (Option.bind_some _ _).symm.trans H; rw [hy145]; with_reducible exact H2_) | (have H2_ := (Option.bind_some _ _).symm.trans H; with_reducible exact H2_) | with_reducible exact H | (rw [hy145]; exact H) | exact H
       have Ny145 := Aside0.mk hy145
       clear hy145
       obtain rfl := Option.some.inj H
       obtain ⟨i015, hi015, _, hsz15, _⟩ := info_parts info35
       obtain ⟨hcut15, hA15, hC15⟩ := print_take_of (P := Tryz.prog) (Value.int .u32) 0 58 35 .i64 Tryz.underlying58 hi015 hsz15 A0 c0 l0 x3_1 (of_decide_eq_true (by first | (with_reducible assumption) | assumption)) (of_decide_eq_true (by first | (with_reducible assumption) | assumption)) HC0.out
       have HR144 := Aside0.mk (Kd.C_of_reads (h1 := fun _ => rfl) (hA15 _ (Kd.reads_of_C HR0.out)))
       have HC144 := Aside0.mk hC15
       clear hA15 hC15 hi015 hsz15
       go_wp2_with (first | ((with_reducible refine gate_builtin (b := .append) (xs := #[.tmp 19, .tmp 22]) rfl ?_); at_builtin; refine Kd.R_append_rows (Kd.int .u32) (w0 := w) w.heap.size rfl (.tmp 19) (.tmp 22) 58 35 (.int .u32 0) 4 rfl Tryz.underlying58 info35 rfl (by decide) (by omega) (.slice none 0 0) ([] : List Int) (l0.take (x3_1 : Int).toNat) _ _ _ (fun _ => True) (fun _ => False) rfl rfl ?aO ?aR (fun _ _ h => h) (fun _ h => h.elim) ?aF ?aB ?aS ?aL ?_; (case aR => first | (rw [← show (l0.take (x3_1 : Int).toNat).length = x3_1.toNat from (by rw [List.length_take]; have h_ : (x3_1 : Int) ≤ (l0.length : Int) := of_decide_eq_true (by first | (with_reducible assumption) | assumption); omega)]; fail) | (refine ow_C_len (d := (Kd.int .u32)) (show (l0.take (x3_1 : Int).toNat).length = x3_1.toNat from (by rw [List.length_take]; have h_ : (x3_1 : Int) ≤ (l0.length : Int) := of_decide_eq_true (by first | (with_reducible assumption) | assumption); omega)) ?_; repeat (first | exact (Kd.C_below HR144.out HB.out) | (with_reducible refine Kd.C_alloc ?_ _) | (with_reducible refine Kd.C_drewN ?_ _) | (with_reducible refine Kd.C_drew ?_)))); (case aB => exact (by repeat (first | (with_reducible first | exact HB.out | apply below_alloc | apply pw_below_drewN | apply below_drew1) | exact HB.out))); (case aF => exact (fun _ _ => trivial)); (case aO => exact ((Kd.R_nil _ _ _ _ (fun _ => True)))); (case aS => exact (below_size (by repeat (first | (with_reducible first | exact HB.out | apply below_alloc | apply pw_below_drewN | apply below_drew1) | exact HB.out)))); (case aL => have := LMc14.out; have hlx_ := (show (l0.take (x3_1 : Int).toNat).length = x3_1.toNat from (by rw [List.length_take]; have h_ : (x3_1 : Int) ≤ (l0.length : Int) := of_decide_eq_true (by first | (with_reducible assumption) | assumption); omega)); omega); intro v146 w16 ho hb hg hat; rw [← Ny145.out] at ho; have n0_ := Aside0.mk (hb); have n1_ := Aside0.mk (ho); clear HB; have HB := n0_; have HO147 := n1_; clear n0_ n1_; clear ho hb hg hat))
       go_ret
       exact ⟨_, by first | rfl | (simp [errW_none, errW_some] <;> rfl) | (simp [*, errW_none, errW_some] <;> rfl), by (with_reducible repeat (first | apply Kd.R_alloc | apply Kd.R_drewN | apply Kd.R_drew)); exact HO147.out, by repeat (first | (with_reducible first | exact HB.out | apply below_alloc | apply pw_below_drewN | apply below_drew1) | exact HB.out)⟩
      ·rw [if_neg c14] at H
       exact absurd H (by simp)
     ·rw [if_neg c13] at H
      exact absurd H (by simp)
    ·rw [if_neg c12] at H
     exact absurd H (by simp)
def bobbinref2_trimmed.l0 : Nat → List Int → Int → Option (List Int)
 | 0, _, _ => none
 | k + 1, x0, x3 => if x3 > 0 then (if 0 ≤ (wrap64 (x3 - 1)) then (if (wrap64 (x3 - 1)) < (x0.length : Int) then (if (rd x0 (wrap64 (x3 - 1))) = 0 then (bobbinref2_trimmed.l0 k x0 (wrap64 (x3 - 1))) else (if 0 ≤ x3 then (if x3 ≤ (x0.length : Int) then (some (x0.take (x3 : Int).toNat)) else (none)) else (none))) else (none)) else (none)) else (if 0 ≤ x3 then (if x3 ≤ (x0.length : Int) then (some (x0.take (x3 : Int).toNat)) else (none)) else (none))
def bobbinref2_trimmed.f (k : Nat) (l0 : List Int) : Option (List Int) := bobbinref2_trimmed.l0 k l0 (l0.length : Int)
set_option maxHeartbeats 8000000 in
set_option maxRecDepth 100000 in
theorem bobbinref2_trimmed.calls (k : Nat) (P0_ : Nat → Prop) (A0 : Option Addr) (c0 : Nat) (l0 : List Int) (r : List Int) (w : World) (hs0 : Kd.V (Kd.int .u32) 35 w w.heap.size (fun k_ => P0_ k_) (.slice A0 l0.length c0) l0) (h : bobbinref2_trimmed.f k l0 = some r) :
  Calls Tryz.prog 101 #[.slice A0 l0.length c0] w fun e w' => ∃ v0_ : Value, e = .returned (v0_) ∧ Kd.V (Kd.int .u32) 35 w' w.heap.size (fun k_ => (P0_ k_ ∨ w.heap.size ≤ k_)) v0_ r ∧ Below w.heap.size w w' := by
 have HO0 := Aside0.mk (show Kd.V (Kd.int .u32) 35 w w.heap.size (fun k_ => (P0_ k_ ∨ w.heap.size ≤ k_)) (.slice A0 l0.length c0) l0 from Kd.V_mono hs0 (fun k_ hk => .inl hk))
 have HB := Aside0.mk (Below.refl w.heap.size w)
 have H : (bobbinref2_trimmed.l0 k l0 (l0.length : Int)) = some r := h
 clear h
 have H' := Aside0.mk H
 clear H
 go_enter Tryz.func101, Tryz.ntmps101
 go_wp2
 go_loopg [3] k (fun kq v3 w' => ∃ (x3_1 : Int), v3 = .int .i64 x3_1 ∧ Aside0 (bobbinref2_trimmed.l0 kq l0 x3_1 = some r) ∧ Aside0 (kq ≤ k) ∧ Aside0 (Kd.V (Kd.int .u32) 35 w' w.heap.size (fun k_ => (P0_ k_ ∨ w.heap.size ≤ k_)) (.slice A0 l0.length c0) l0) ∧ Aside0 (Below w.heap.size w w'))
 case atStart => exact ⟨((l0.length : Int)), (by first | rfl | (simp; done) | (simp [*]; done)), H', ⟨Nat.le_refl _⟩, ⟨by (with_reducible repeat (first | apply Kd.V_alloc | apply Kd.V_drewN | apply Kd.V_drew)); exact HO0.out⟩, ⟨by repeat (first | (with_reducible first | exact HB.out | apply below_alloc | apply pw_below_drewN | apply below_drew1) | exact HB.out)⟩⟩
 case round =>
  clear H'
  obtain ⟨x3_1, rfl, HA, HK1, HO_0, HB⟩ := hrel
  cases gk with
  | zero => exact absurd HA.out (by simp [bobbinref2_trimmed.l0])
  | succ k1 =>
   have H := HA.out
   clear HA
   simp only [bobbinref2_trimmed.l0] at H
   by_cases c2 : x3_1 > 0
   ·rw [if_pos c2] at H
    have c2b0 : decide (0 < x3_1) = true := decide_eq_true c2
    clear c2
    obtain ⟨ji3, hji3⟩ : ∃ j_ : Int, (wrap64 (x3_1 - 1)) = j_ := ⟨_, rfl⟩
    replace H : (if 0 ≤ (ji3) then (if (ji3) < (l0.length : Int) then (if (rd l0 (ji3)) = 0 then (bobbinref2_trimmed.l0 k1 l0 ji3) else (if 0 ≤ x3_1 then (if x3_1 ≤ (l0.length : Int) then (some (l0.take (x3_1 : Int).toNat)) else (none)) else (none))) else (none)) else (none)) = some r := by first | (rw [hji3] at H; exact H) | (simp only [hji3] at H ⊢; exact H)
    have hji3w : (IntKind.i64.wrap (x3_1 - 1)) = ji3 := (i64_w _).trans hji3
    by_cases c4 : 0 ≤ (ji3)
    ·rw [if_pos c4] at H
     have c4b0 : decide (0 ≤ (ji3)) = true := decide_eq_true c4
     clear c4
     by_cases c5 : (ji3) < (l0.length : Int)
     ·rw [if_pos c5] at H
      have c5b0 : decide ((ji3) < (l0.length : Int)) = true := decide_eq_true c5
      clear c5
      by_cases c6 : (rd l0 (ji3)) = 0
      ·rw [if_pos c6] at H
       have c6b0 : ((rd l0 (ji3)) == 0) = true := beq_iff_eq.mpr c6
       have c6b1 : ((rd l0 (ji3)) != 0) = false := bne_eq_false_iff_eq.mpr c6
       clear c6
       have H' := Aside0.mk H
       clear H
       have p156 : 0 ≤ ((ji3) : Int) := of_decide_eq_true (by first | (with_reducible assumption) | assumption)
       have q156 : (ji3) < (l0.length : Int) := of_decide_eq_true (by first | (with_reducible assumption) | assumption)
       obtain ⟨ad156, e156, hx156_0⟩ := Kd.at_int (Kd.V_reads' HO_0.out).2.2 (ji3) p156 q156
       cases e156
       replace p156 := eq_true p156
       replace q156 := eq_true q156
       go_wp2
       go_roundg k1
       case measure => have := HK1.out; omega
       case rel => exact ⟨(ji3), (by first | rfl | (simp; done) | (simp only [← hji3] <;> (first | rfl | simp)) | (simp [*]; done)), H', ⟨by have := HK1.out; omega⟩, ⟨by (with_reducible repeat (first | apply Kd.V_alloc | apply Kd.V_drewN | apply Kd.V_drew)); exact HO_0.out⟩, ⟨by repeat (first | (with_reducible first | exact HB.out | apply below_alloc | apply pw_below_drewN | apply below_drew1) | exact HB.out)⟩⟩
      ·rw [if_neg c6] at H
       have c6b0 : ((rd l0 (ji3)) == 0) = false := beq_eq_false_iff_ne.mpr c6
       have c6b1 : ((rd l0 (ji3)) != 0) = true := bne_iff_ne.mpr c6
       by_cases c7 : 0 ≤ x3_1
       ·rw [if_pos c7] at H
        have c7b0 := eq_true c7
        have c7b1 : decide (0 ≤ x3_1) = true := decide_eq_true c7
        clear c7
        by_cases c8 : x3_1 ≤ (l0.length : Int)
        ·rw [if_pos c8] at H
         have c8b0 := eq_true c8
         have c8b1 : decide (x3_1 ≤ (l0.length : Int)) = true := decide_eq_true c8
         clear c8
         obtain ⟨y157, hy157⟩ : ∃ y_ : List Int, y_ = (l0.take (x3_1 : Int).toNat) := ⟨_, rfl⟩
         replace H : (some y157) = some r := by first | (rw [hy157]; with_reducible exact H) | (have H2_ := (Option.bind_some _ _).symm.trans H; rw [hy157]; with_reducible exact H2_) | (have H2_ := (Option.bind_some _ _).symm.trans H; with_reducible exact H2_) | with_reducible exact H | (rw [hy157]; exact H) | exact H
         have Ny157 := Aside0.mk hy157
         clear hy157
         obtain rfl := Option.some.inj H
         have p156 : 0 ≤ ((ji3) : Int) := of_decide_eq_true (by first | (with_reducible assumption) | assumption)
         have q156 : (ji3) < (l0.length : Int) := of_decide_eq_true (by first | (with_reducible assumption) | assumption)
         obtain ⟨ad156, e156, hx156_0⟩ := Kd.at_int (Kd.V_reads' HO_0.out).2.2 (ji3) p156 q156
         cases e156
         replace p156 := eq_true p156
         replace q156 := eq_true q156
         have q9 : (x3_1 : Int) ≤ ((l0.length : Int) : Int) := of_decide_eq_true (by first | (with_reducible assumption) | assumption)
         obtain ⟨i09, hi09, _, hsz9, _⟩ := info_parts info35
         have hroom9 : l0.length ≤ c0 := (Kd.V_reads' HO_0.out).2.1
         have hC9 : Kd.F (Kd.int .u32) _ _ (some ad156) l0.length l0 := (Kd.V_at (base := w.heap.size) HO_0.out).2.2
         have hcut9 := cut_to (P := Tryz.prog) 58 35 .i64 Tryz.underlying58 hi09 (some ad156) l0.length c0 x3_1 (of_decide_eq_true (by first | (with_reducible assumption) | assumption)) q9 hroom9
         have hr9 := Kd.F_take (m := (x3_1 : Int).toNat) hC9 (by omega)
         have hy9 : y157.length = (x3_1 : Int).toNat := (by rw [Ny157.out, List.length_take]; omega)
         rw [← Ny157.out] at hr9
         rw [← hy9] at hcut9
         have HO161 := Aside0.mk (show Kd.V (Kd.int .u32) 35 _ w.heap.size _ (.slice (some ad156) y157.length c0) y157 from Kd.V_mk (by omega) hr9)
         have HC161 := Aside0.mk (show y157.length ≤ c0 from by omega)
         clear hr9 hC9 hroom9 hi09 hsz9
         have KY9 := Aside0.mk hy9
         clear hy9
         replace q9 := eq_true q9
         go_wp2
         go_ret
         exact ⟨_, by first | rfl | (simp [errW_none, errW_some] <;> rfl) | (simp only [← hji3]; first | rfl | (simp [errW_none, errW_some] <;> rfl)) | (simp [*, errW_none, errW_some] <;> rfl), by (with_reducible repeat (first | apply Kd.V_alloc | apply Kd.V_drewN | apply Kd.V_drew)); exact HO161.out, by repeat (first | (with_reducible first | exact HB.out | apply below_alloc | apply pw_below_drewN | apply below_drew1) | exact HB.out)⟩
        ·rw [if_neg c8] at H
         exact absurd H (by simp)
       ·rw [if_neg c7] at H
        exact absurd H (by simp)
     ·rw [if_neg c5] at H
      exact absurd H (by simp)
    ·rw [if_neg c4] at H
     exact absurd H (by simp)
   ·rw [if_neg c2] at H
    have c2b0 : decide (0 < x3_1) = false := decide_eq_false c2
    clear c2
    by_cases c10 : 0 ≤ x3_1
    ·rw [if_pos c10] at H
     have c10b0 := eq_true c10
     have c10b1 : decide (0 ≤ x3_1) = true := decide_eq_true c10
     clear c10
     by_cases c11 : x3_1 ≤ (l0.length : Int)
     ·rw [if_pos c11] at H
      have c11b0 := eq_true c11
      have c11b1 : decide (x3_1 ≤ (l0.length : Int)) = true := decide_eq_true c11
      clear c11
      obtain ⟨y162, hy162⟩ : ∃ y_ : List Int, y_ = (l0.take (x3_1 : Int).toNat) := ⟨_, rfl⟩
      replace H : (some y162) = some r := by first | (rw [hy162]; with_reducible exact H) | (have H2_ := (Option.bind_some _ _).symm.trans H; rw [hy162]; with_reducible exact H2_) | (have H2_ := (Option.bind_some _ _).symm.trans H; with_reducible exact H2_) | with_reducible exact H | (rw [hy162]; exact H) | exact H
      have Ny162 := Aside0.mk hy162
      clear hy162
      obtain rfl := Option.some.inj H
      have q12 : (x3_1 : Int) ≤ ((l0.length : Int) : Int) := of_decide_eq_true (by first | (with_reducible assumption) | assumption)
      obtain ⟨i012, hi012, _, hsz12, _⟩ := info_parts info35
      have hroom12 : l0.length ≤ c0 := (Kd.V_reads' HO_0.out).2.1
      have hC12 : Kd.F (Kd.int .u32) _ _ A0 l0.length l0 := (Kd.V_at (base := w.heap.size) HO_0.out).2.2
      have hcut12 := cut_to (P := Tryz.prog) 58 35 .i64 Tryz.underlying58 hi012 A0 l0.length c0 x3_1 (of_decide_eq_true (by first | (with_reducible assumption) | assumption)) q12 hroom12
      have hr12 := Kd.F_take (m := (x3_1 : Int).toNat) hC12 (by omega)
      have hy12 : y162.length = (x3_1 : Int).toNat := (by rw [Ny162.out, List.length_take]; omega)
      rw [← Ny162.out] at hr12
      rw [← hy12] at hcut12
      have HO166 := Aside0.mk (show Kd.V (Kd.int .u32) 35 _ w.heap.size _ (.slice A0 y162.length c0) y162 from Kd.V_mk (by omega) hr12)
      have HC166 := Aside0.mk (show y162.length ≤ c0 from by omega)
      clear hr12 hC12 hroom12 hi012 hsz12
      have KY12 := Aside0.mk hy12
      clear hy12
      replace q12 := eq_true q12
      go_wp2
      go_ret
      exact ⟨_, by first | rfl | (simp [errW_none, errW_some] <;> rfl) | (simp [*, errW_none, errW_some] <;> rfl), by (with_reducible repeat (first | apply Kd.V_alloc | apply Kd.V_drewN | apply Kd.V_drew)); exact HO166.out, by repeat (first | (with_reducible first | exact HB.out | apply below_alloc | apply pw_below_drewN | apply below_drew1) | exact HB.out)⟩
     ·rw [if_neg c11] at H
      exact absurd H (by simp)
    ·rw [if_neg c10] at H
     exact absurd H (by simp)
end Go.Proofs.YtdoeigngpemcgaaGreatDoor.PNat
namespace Go.Proofs.YtdoeigngpemcgaaGreatDoor.PNatO
open Go.RowKit Go.Proofs.YtdoeigngpemcgaaGreatDoorW.PrintWords Go.Proofs.YtdoeigngpemcgaaGreatDoorW.PrintLast Go.Proofs.YtdoeigngpemcgaaGreatDoorW.PrintMore
attribute [local go_sem] max2_int min2_int max_two min_two max_three min_three max_four min_four
set_option linter.unusedVariables false
set_option linter.unusedSimpArgs false
-- the values' own types
theorem ow_C_len {α : Type} {d : Kd α} {w : World} {A : Option Addr} {n m : Nat} {xs : List α} (h : n = m) (hc : d.C w A n xs) : d.C w A m xs := h ▸ hc
def bobbinref2_trimmed.l0 : Nat → List Int → Int → Option (List Int)
 | 0, _, _ => none
 | k + 1, x0, x3 => if x3 > 0 then (if 0 ≤ (wrap64 (x3 - 1)) then (if (wrap64 (x3 - 1)) < (x0.length : Int) then (if (rd x0 (wrap64 (x3 - 1))) = 0 then (bobbinref2_trimmed.l0 k x0 (wrap64 (x3 - 1))) else (if 0 ≤ x3 then (if x3 ≤ (x0.length : Int) then (some (x0.take (x3 : Int).toNat)) else (none)) else (none))) else (none)) else (none)) else (if 0 ≤ x3 then (if x3 ≤ (x0.length : Int) then (some (x0.take (x3 : Int).toNat)) else (none)) else (none))
def bobbinref2_trimmed.f (k : Nat) (l0 : List Int) : Option (List Int) := bobbinref2_trimmed.l0 k l0 (l0.length : Int)
set_option maxHeartbeats 8000000 in
set_option maxRecDepth 100000 in
theorem bobbinref2_trimmed.calls (k : Nat) (P0_ : Nat → Prop) (u9000_ : Value) (l0 : List Int) (r : List Int) (w0 w : World) (hB : Below w0.heap.size w0 w) (ho0 : Kd.R (Kd.int .u32) 35 w w0.heap.size P0_ u9000_ l0) (h : bobbinref2_trimmed.f k l0 = some r) :
  Calls Tryz.prog 101 #[u9000_] w fun e w' => ∃ v0_ : Value, e = .returned (v0_) ∧ Kd.R (Kd.int .u32) 35 w' w0.heap.size (fun k_ => (P0_ k_ ∨ w.heap.size ≤ k_)) v0_ r ∧ Below w0.heap.size w0 w' ∧ Kept w w' (fun k_ => P0_ k_) := by
 have HO0 := Aside0.mk (show Kd.R (Kd.int .u32) 35 w w0.heap.size (fun k_ => (P0_ k_ ∨ w.heap.size ≤ k_)) u9000_ l0 from Kd.R_mono ho0 (fun k_ hk => (.inl hk)))
 have HK := Aside0.mk (Kept.refl w (fun k_ => P0_ k_))
 have HW0 := Aside0.mk hB.size
 have HB := Aside0.mk hB
 clear hB
 have H : (bobbinref2_trimmed.l0 k l0 (l0.length : Int)) = some r := h
 clear h
 have H' := Aside0.mk H
 clear H
 obtain ⟨Ao2, co2, eo2⟩ := Kd.R_slice HO0.out
 subst eo2
 go_enter Tryz.func101, Tryz.ntmps101
 go_wp2
 go_loopg [3] k (fun kq v3 w' => ∃ (x3_1 : Int), v3 = .int .i64 x3_1 ∧ Aside0 (bobbinref2_trimmed.l0 kq l0 x3_1 = some r) ∧ Aside0 (kq ≤ k) ∧ Aside0 (Kd.R (Kd.int .u32) 35 w' w0.heap.size (fun k_ => (P0_ k_ ∨ w.heap.size ≤ k_)) (.slice Ao2 l0.length co2) l0) ∧ Aside0 (Kept w w' (fun k_ => P0_ k_)) ∧ Aside0 (Below w0.heap.size w0 w'))
 case atStart => exact ⟨((l0.length : Int)), (by first | rfl | (simp; done) | (simp [*]; done)), H', ⟨Nat.le_refl _⟩, ⟨by (with_reducible repeat (first | apply Kd.R_alloc | apply Kd.R_drewN | apply Kd.R_drew)); exact HO0.out⟩, ⟨by repeat (first | (with_reducible first | exact HK.out | apply Kept.alloc | apply Kept.drewN | apply Kept.drew) | exact HK.out)⟩, ⟨by repeat (first | (with_reducible first | exact HB.out | apply below_alloc | apply pw_below_drewN | apply below_drew1) | exact HB.out)⟩⟩
 case round =>
  clear H'
  try clear p2
  obtain ⟨x3_1, rfl, HA, HK1, HO_0, HK, HB⟩ := hrel
  cases gk with
  | zero => exact absurd HA.out (by simp [bobbinref2_trimmed.l0])
  | succ k1 =>
   have H := HA.out
   clear HA
   simp only [bobbinref2_trimmed.l0] at H
   by_cases c3 : x3_1 > 0
   ·rw [if_pos c3] at H
    have c3b0 : decide (0 < x3_1) = true := decide_eq_true c3
    clear c3
    obtain ⟨ji4, hji4⟩ : ∃ j_ : Int, (wrap64 (x3_1 - 1)) = j_ := ⟨_, rfl⟩
    replace H : (if 0 ≤ (ji4) then (if (ji4) < (l0.length : Int) then (if (rd l0 (ji4)) = 0 then (bobbinref2_trimmed.l0 k1 l0 ji4) else (if 0 ≤ x3_1 then (if x3_1 ≤ (l0.length : Int) then (some (l0.take (x3_1 : Int).toNat)) else (none)) else (none))) else (none)) else (none)) = some r := by first | (rw [hji4] at H; exact H) | (simp only [hji4] at H ⊢; exact H)
    have hji4w : (IntKind.i64.wrap (x3_1 - 1)) = ji4 := (i64_w _).trans hji4
    by_cases c5 : 0 ≤ (ji4)
    ·rw [if_pos c5] at H
     have c5b0 : decide (0 ≤ (ji4)) = true := decide_eq_true c5
     clear c5
     by_cases c6 : (ji4) < (l0.length : Int)
     ·rw [if_pos c6] at H
      have c6b0 : decide ((ji4) < (l0.length : Int)) = true := decide_eq_true c6
      clear c6
      by_cases c7 : (rd l0 (ji4)) = 0
      ·rw [if_pos c7] at H
       have c7b0 : ((rd l0 (ji4)) == 0) = true := beq_iff_eq.mpr c7
       have c7b1 : ((rd l0 (ji4)) != 0) = false := bne_eq_false_iff_eq.mpr c7
       clear c7
       have H' := Aside0.mk H
       clear H
       have p110 : 0 ≤ ((ji4) : Int) := of_decide_eq_true (by first | (with_reducible assumption) | assumption)
       have q110 : (ji4) < (l0.length : Int) := of_decide_eq_true (by first | (with_reducible assumption) | assumption)
       obtain ⟨ad110, e110, hx110_0⟩ := Kd.at_int (Kd.R_reads' HO_0.out).2.2 (ji4) p110 q110
       cases e110
       replace p110 := eq_true p110
       replace q110 := eq_true q110
       go_wp2
       go_roundg k1
       case measure => have := HK1.out; omega
       case rel => exact ⟨(ji4), (by first | rfl | (simp; done) | (simp only [← hji4] <;> (first | rfl | simp)) | (simp [*]; done)), H', ⟨by have := HK1.out; omega⟩, ⟨by (with_reducible repeat (first | apply Kd.R_alloc | apply Kd.R_drewN | apply Kd.R_drew)); exact HO_0.out⟩, ⟨by repeat (first | (with_reducible first | exact HK.out | apply Kept.alloc | apply Kept.drewN | apply Kept.drew) | exact HK.out)⟩, ⟨by repeat (first | (with_reducible first | exact HB.out | apply below_alloc | apply pw_below_drewN | apply below_drew1) | exact HB.out)⟩⟩
      ·rw [if_neg c7] at H
       have c7b0 : ((rd l0 (ji4)) == 0) = false := beq_eq_false_iff_ne.mpr c7
       have c7b1 : ((rd l0 (ji4)) != 0) = true := bne_iff_ne.mpr c7
       by_cases c8 : 0 ≤ x3_1
       ·rw [if_pos c8] at H
        have c8b0 := eq_true c8
        have c8b1 : decide (0 ≤ x3_1) = true := decide_eq_true c8
        clear c8
        by_cases c9 : x3_1 ≤ (l0.length : Int)
        ·rw [if_pos c9] at H
         have c9b0 := eq_true c9
         have c9b1 : decide (x3_1 ≤ (l0.length : Int)) = true := decide_eq_true c9
         clear c9
         obtain ⟨y111, hy111⟩ : ∃ y_ : List Int, y_ = (l0.take (x3_1 : Int).toNat) := ⟨_, rfl⟩
         replace H : (some y111) = some r := by first | (rw [hy111]; with_reducible exact H) | (have H2_ := (Option.bind_some _ _).symm.trans H; rw [hy111]; with_reducible exact H2_) | (have H2_ := (Option.bind_some _ _).symm.trans H; with_reducible exact H2_) | with_reducible exact H | (rw [hy111]; exact H) | exact H
         have Ny111 := Aside0.mk hy111
         clear hy111
         obtain rfl := Option.some.inj H
         have p110 : 0 ≤ ((ji4) : Int) := of_decide_eq_true (by first | (with_reducible assumption) | assumption)
         have q110 : (ji4) < (l0.length : Int) := of_decide_eq_true (by first | (with_reducible assumption) | assumption)
         obtain ⟨ad110, e110, hx110_0⟩ := Kd.at_int (Kd.R_reads' HO_0.out).2.2 (ji4) p110 q110
         cases e110
         replace p110 := eq_true p110
         replace q110 := eq_true q110
         have q10 : (x3_1 : Int) ≤ ((l0.length : Int) : Int) := of_decide_eq_true (by first | (with_reducible assumption) | assumption)
         obtain ⟨i010, hi010, _, hsz10, _⟩ := info_parts info35
         have hcut10 := cut_to (P := Tryz.prog) 58 35 .i64 Tryz.underlying58 hi010 (some ad110) l0.length co2 x3_1 (of_decide_eq_true (by first | (with_reducible assumption) | assumption)) q10 (Kd.R_reads' HO_0.out).2.1
         have hr10 := Kd.R_take (m := (x3_1 : Int).toNat) HO_0.out (by omega)
         have hy10 : y111.length = (x3_1 : Int).toNat := (by rw [Ny111.out, List.length_take]; omega)
         rw [← Ny111.out] at hr10
         rw [← hy10] at hr10 hcut10
         clear hy10 hi010 hsz10 HO_0
         have HO113 := Aside0.mk hr10
         clear hr10
         replace q10 := eq_true q10
         go_wp2
         go_ret
         exact ⟨_, by first | rfl | (simp [errW_none, errW_some] <;> rfl) | (simp only [← hji4]; first | rfl | (simp [errW_none, errW_some] <;> rfl)) | (simp [*, errW_none, errW_some] <;> rfl), by (with_reducible repeat (first | apply Kd.R_alloc | apply Kd.R_drewN | apply Kd.R_drew)); exact HO113.out, by repeat (first | (with_reducible first | exact HB.out | apply below_alloc | apply pw_below_drewN | apply below_drew1) | exact HB.out), by repeat (first | (with_reducible first | exact HK.out | apply Kept.alloc | apply Kept.drewN | apply Kept.drew) | exact HK.out)⟩
        ·rw [if_neg c9] at H
         exact absurd H (by simp)
       ·rw [if_neg c8] at H
        exact absurd H (by simp)
     ·rw [if_neg c6] at H
      exact absurd H (by simp)
    ·rw [if_neg c5] at H
     exact absurd H (by simp)
   ·rw [if_neg c3] at H
    have c3b0 : decide (0 < x3_1) = false := decide_eq_false c3
    clear c3
    by_cases c11 : 0 ≤ x3_1
    ·rw [if_pos c11] at H
     have c11b0 := eq_true c11
     have c11b1 : decide (0 ≤ x3_1) = true := decide_eq_true c11
     clear c11
     by_cases c12 : x3_1 ≤ (l0.length : Int)
     ·rw [if_pos c12] at H
      have c12b0 := eq_true c12
      have c12b1 : decide (x3_1 ≤ (l0.length : Int)) = true := decide_eq_true c12
      clear c12
      obtain ⟨y114, hy114⟩ : ∃ y_ : List Int, y_ = (l0.take (x3_1 : Int).toNat) := ⟨_, rfl⟩
      replace H : (some y114) = some r := by first | (rw [hy114]; with_reducible exact H) | (have H2_ := (Option.bind_some _ _).symm.trans H; rw [hy114]; with_reducible exact H2_) | (have H2_ := (Option.bind_some _ _).symm.trans H; with_reducible exact H2_) | with_reducible exact H | (rw [hy114]; exact H) | exact H
      have Ny114 := Aside0.mk hy114
      clear hy114
      obtain rfl := Option.some.inj H
      have q13 : (x3_1 : Int) ≤ ((l0.length : Int) : Int) := of_decide_eq_true (by first | (with_reducible assumption) | assumption)
      obtain ⟨i013, hi013, _, hsz13, _⟩ := info_parts info35
      have hcut13 := cut_to (P := Tryz.prog) 58 35 .i64 Tryz.underlying58 hi013 Ao2 l0.length co2 x3_1 (of_decide_eq_true (by first | (with_reducible assumption) | assumption)) q13 (Kd.R_reads' HO_0.out).2.1
      have hr13 := Kd.R_take (m := (x3_1 : Int).toNat) HO_0.out (by omega)
      have hy13 : y114.length = (x3_1 : Int).toNat := (by rw [Ny114.out, List.length_take]; omega)
      rw [← Ny114.out] at hr13
      rw [← hy13] at hr13 hcut13
      clear hy13 hi013 hsz13 HO_0
      have HO116 := Aside0.mk hr13
      clear hr13
      replace q13 := eq_true q13
      go_wp2
      go_ret
      exact ⟨_, by first | rfl | (simp [errW_none, errW_some] <;> rfl) | (simp [*, errW_none, errW_some] <;> rfl), by (with_reducible repeat (first | apply Kd.R_alloc | apply Kd.R_drewN | apply Kd.R_drew)); exact HO116.out, by repeat (first | (with_reducible first | exact HB.out | apply below_alloc | apply pw_below_drewN | apply below_drew1) | exact HB.out), by repeat (first | (with_reducible first | exact HK.out | apply Kept.alloc | apply Kept.drewN | apply Kept.drew) | exact HK.out)⟩
     ·rw [if_neg c12] at H
      exact absurd H (by simp)
    ·rw [if_neg c11] at H
     exact absurd H (by simp)
mutual
def bobbinref2_Text.l0 : Nat → List Int → List Int → Option (ByteArray)
 | 0, _, _ => none
 | k + 1, x3, x4 => if (x3.length : Int) > 0 then (bobbinref2_Text.l1 k x3 x4 0 (wrap64 ((x3.length : Int) - 1))) else (bobbinref2_Text.l3 k x4 (x4.length : Int))
def bobbinref2_Text.l1 : Nat → List Int → List Int → Int → Int → Option (ByteArray)
 | 0, _, _, _, _ => none
 | k + 1, x3, x4, x5, x6 => if x6 ≥ 0 then (if 0 ≤ x6 then (if x6 < (x3.length : Int) then (bobbinref2_Text.l1 k (x3.set (x6 : Int).toNat ((IntKind.u64.wrap (Int.tdiv (Go.bits .or .u64 (IntKind.u64.wrap (x5 * 4294967296)) (IntKind.u64.wrap (rd x3 x6))) 1000000000)) % 4294967296)) x4 (Int.tmod (Go.bits .or .u64 (IntKind.u64.wrap (x5 * 4294967296)) (IntKind.u64.wrap (rd x3 x6))) 1000000000) (wrap64 (x6 - 1))) else (none)) else (none)) else ((bobbinref2_trimmed.f k x3).bind fun t122 => (bobbinref2_Text.l2 k t122 x4 x5 0))
def bobbinref2_Text.l2 : Nat → List Int → List Int → Int → Int → Option (ByteArray)
 | 0, _, _, _, _ => none
 | k + 1, x3, x4, x5, x7 => if x7 < 9 then (if x4.length < 140737488355328 then (bobbinref2_Text.l2 k x3 (x4 ++ [(IntKind.u64.wrap (48 + (Int.tmod x5 10))) % 256]) (IntKind.u64.wrap (Int.tdiv x5 10)) (wrap64 (x7 + 1))) else (none)) else (bobbinref2_Text.l0 k x3 x4)
def bobbinref2_Text.j4 : Nat → List Int → Int → Option (ByteArray)
 | 0, _, _ => none
 | k + 1, x4, x8 => bobbinref2_Text.l4 k x4 ([] : List Int) (wrap64 (x8 - 1))
def bobbinref2_Text.l4 : Nat → List Int → List Int → Int → Option (ByteArray)
 | 0, _, _, _ => none
 | k + 1, x4, x9, x10 => if x10 ≥ 0 then (if 0 ≤ x10 then (if x10 < (x4.length : Int) then (if x9.length < 140737488355328 then (bobbinref2_Text.l4 k x4 (x9 ++ [rd x4 x10]) (wrap64 (x10 - 1))) else (none)) else (none)) else (none)) else (some (strOfNums x9))
def bobbinref2_Text.l3 : Nat → List Int → Int → Option (ByteArray)
 | 0, _, _ => none
 | k + 1, x4, x8 => if x8 > 1 then (if 0 ≤ (wrap64 (x8 - 1)) then (if (wrap64 (x8 - 1)) < (x4.length : Int) then (if (rd x4 (wrap64 (x8 - 1))) = 48 then (bobbinref2_Text.l3 k x4 (wrap64 (x8 - 1))) else (bobbinref2_Text.j4 k x4 x8)) else (none)) else (none)) else (bobbinref2_Text.j4 k x4 x8)
end
def bobbinref2_Text.f (k : Nat) (l0 : List Int) : Option (ByteArray) := (PNat.bobbinref2_Norm.f k l0).bind fun t117 => (if (t117.length : Int) = 0 then (some (⟨#[48]⟩ : ByteArray)) else (bobbinref2_Text.l0 k t117 ([] : List Int)))
set_option maxHeartbeats 8000000 in
set_option maxRecDepth 100000 in
theorem bobbinref2_Text.calls (k : Nat) (A0 : Option Addr) (c0 : Nat) (l0 : List Int) (r : ByteArray) (w : World) (hr0 : Kd.C (Kd.int .u32) w A0 l0.length l0) (hc0 : l0.length ≤ c0) (h : bobbinref2_Text.f k l0 = some r) :
  Calls Tryz.prog 47 #[.slice A0 l0.length c0] w fun e w' => e = .returned (.string r) ∧ Below w.heap.size w w' := by
 have HR0 := Aside0.mk hr0
 have HC0 := Aside0.mk hc0
 clear hr0 hc0
 have HB := Aside0.mk (Below.refl w.heap.size w)
 have H : ((PNat.bobbinref2_Norm.f k l0).bind fun t117 => (if (t117.length : Int) = 0 then (some (⟨#[48]⟩ : ByteArray)) else (bobbinref2_Text.l0 k t117 ([] : List Int)))) = some r := h
 clear h
 replace H := Option.bind_eq_some_iff.mp H
 obtain ⟨t117, A20, H⟩ := H
 replace H : (if (t117.length : Int) = 0 then (some (⟨#[48]⟩ : ByteArray)) else (bobbinref2_Text.l0 k t117 ([] : List Int))) = some r := H
 have A2 := Aside0.mk A20
 clear A20
 by_cases c3 : (t117.length : Int) = 0
 ·rw [if_pos c3] at H
  have c3b0 : ((t117.length : Int) == 0) = true := beq_iff_eq.mpr c3
  have c3b1 : ((t117.length : Int) != 0) = false := bne_eq_false_iff_eq.mpr c3
  clear c3
  obtain rfl := Option.some.inj H
  go_enter Tryz.func47, Tryz.ntmps47
  go_wp2_with (first | ((with_reducible refine gate_callee (f := 99) rfl ?_); refine goesL_ (some 12) rfl rfl Tryz.func99 (by kernel_rfl) rfl #[.slice A0 l0.length c0] rfl (by (try simp only [List.map_toArray, List.map_cons, List.map_nil]); first | done | rfl | (simp only [List.length_drop, List.length_take]; rfl)) ?_; (with_reducible refine (PNat.bobbinref2_Norm.calls k _ _ l0 t117 _ ?side1 ?side2 A2.out).mono ?_); (case side1 => repeat (first | exact HR0.out | (with_reducible refine Kd.C_alloc ?_ _) | (with_reducible refine Kd.C_drewN ?_ _) | (with_reducible refine Kd.C_drew ?_))); (case side2 => exact HC0.out); rintro e w4 ⟨v118, rfl, ho0, hb⟩; refine ⟨_, rfl, ?_⟩; have n0_ := Aside0.mk (Kd.R_lower ho0 (below_size (by repeat (first | (with_reducible first | exact HB.out | apply below_alloc | apply pw_below_drewN | apply below_drew1) | exact HB.out)))); have n1_ := Aside0.mk (below_step (by repeat (first | (with_reducible first | exact HB.out | apply below_alloc | apply pw_below_drewN | apply below_drew1) | exact HB.out)) hb); clear HB; have HO119 := n0_; have HB := n1_; clear n0_ n1_; (try clear hb); (try clear hb2); (try clear hk); (try clear hi); (try clear ho0); obtain ⟨Ao5, co5, eo5⟩ := Kd.R_slice HO119.out; subst eo5))
  go_ret
  exact ⟨by first | rfl | (simp [errW_none, errW_some] <;> rfl) | (simp [*, errW_none, errW_some] <;> rfl), by repeat (first | (with_reducible first | exact HB.out | apply below_alloc | apply pw_below_drewN | apply below_drew1) | exact HB.out)⟩
 ·rw [if_neg c3] at H
  have c3b0 : ((t117.length : Int) == 0) = false := beq_eq_false_iff_ne.mpr c3
  have c3b1 : ((t117.length : Int) != 0) = true := bne_iff_ne.mpr c3
  have c3b2 : ¬ (t117 = []) := fun h_ => c3 (by rw [h_]; rfl)
  have H' := Aside0.mk H
  clear H
  go_enter Tryz.func47, Tryz.ntmps47
  go_wp2_with (first | ((with_reducible refine gate_callee (f := 99) rfl ?_); refine goesL_ (some 12) rfl rfl Tryz.func99 (by kernel_rfl) rfl #[.slice A0 l0.length c0] rfl (by (try simp only [List.map_toArray, List.map_cons, List.map_nil]); first | done | rfl | (simp only [List.length_drop, List.length_take]; rfl)) ?_; (with_reducible refine (PNat.bobbinref2_Norm.calls k _ _ l0 t117 _ ?side1 ?side2 A2.out).mono ?_); (case side1 => repeat (first | exact HR0.out | (with_reducible refine Kd.C_alloc ?_ _) | (with_reducible refine Kd.C_drewN ?_ _) | (with_reducible refine Kd.C_drew ?_))); (case side2 => exact HC0.out); rintro e w6 ⟨v118, rfl, ho0, hb⟩; refine ⟨_, rfl, ?_⟩; have n0_ := Aside0.mk (Kd.R_lower ho0 (below_size (by repeat (first | (with_reducible first | exact HB.out | apply below_alloc | apply pw_below_drewN | apply below_drew1) | exact HB.out)))); have n1_ := Aside0.mk (below_step (by repeat (first | (with_reducible first | exact HB.out | apply below_alloc | apply pw_below_drewN | apply below_drew1) | exact HB.out)) hb); clear HB; have HO119 := n0_; have HB := n1_; clear n0_ n1_; (try clear hb); (try clear hb2); (try clear hk); (try clear hi); (try clear ho0); obtain ⟨Ao7, co7, eo7⟩ := Kd.R_slice HO119.out; subst eo7))
  go_loopg [3, 4] k (fun kq v3 v4 w' => ∃ (x3_1 : List Int) (x4_1 : List Int), Aside0 (bobbinref2_Text.l0 kq x3_1 x4_1 = some r) ∧ Aside0 (kq ≤ k) ∧ Aside0 (Kd.R (Kd.int .u32) 35 w' w.heap.size (fun _ => True) v3 x3_1) ∧ Aside0 (Kd.R (Kd.int .u8) 5 w' w.heap.size (fun _ => True) v4 x4_1) ∧ Aside0 (Below w.heap.size w w'))
  case atStart => exact ⟨(t117), (([] : List Int)), H', ⟨Nat.le_refl _⟩, ⟨by (with_reducible repeat (first | apply Kd.R_alloc | apply Kd.R_drewN | apply Kd.R_drew)); exact HO119.out⟩, ⟨by first | exact Kd.R_nil _ _ _ _ _ | exact Kd.R_nil _ 5 _ 0 (fun _ => False) | exact Kd.R_nil _ 5 _ 0 _ | exact Kd.R_nil _ _ _ _ _ | exact Kd.N_nil _ _ _ _ _ | exact Kd.V_nil _ _ _ _ _ | exact Kd.Q_nil _ _ _ _ _ | exact Kd.S_nil _ _ _ _ _⟩, ⟨by repeat (first | (with_reducible first | exact HB.out | apply below_alloc | apply pw_below_drewN | apply below_drew1) | exact HB.out)⟩⟩
  case round =>
   clear H'
   try clear c1
   try clear c2
   try clear p2
   try clear c3
   try clear c3b0
   try clear c3b1
   try clear c3b2
   obtain ⟨x3_1, x4_1, HA, HK1, HO_3, HO_4, HB⟩ := hrel
   cases gk with
   | zero => exact absurd HA.out (by simp [bobbinref2_Text.l0])
   | succ k1 =>
    have H := HA.out
    clear HA
    simp only [bobbinref2_Text.l0] at H
    by_cases c8 : (x3_1.length : Int) > 0
    ·rw [if_pos c8] at H
     have c8b0 : decide (0 < (x3_1.length : Int)) = true := decide_eq_true c8
     have c8b1 : decide (0 < x3_1.length) = true := decide_eq_true (by omega)
     clear c8
     have H' := Aside0.mk H
     clear H
     obtain ⟨Ao9, co9, eo9⟩ := Kd.R_slice HO_3.out
     subst eo9
     go_wp2
     go_loopg [5, 6] k1 (fun kq v5 v6 w' => ∃ (x3_2 : List Int) (x5_2 : Int) (x6_2 : Int), v5 = .int .u64 x5_2 ∧ v6 = .int .i64 x6_2 ∧ Aside0 (bobbinref2_Text.l1 kq x3_2 x4_1 x5_2 x6_2 = some r) ∧ Aside0 (kq ≤ k1) ∧ Aside0 (Kd.R (Kd.int .u32) 35 w' w.heap.size (fun _ => True) (.slice Ao9 x3_1.length co9) x3_2) ∧ Aside0 (Kd.R (Kd.int .u8) 5 w' w.heap.size (fun _ => True) u4 x4_1) ∧ Aside0 (Below w.heap.size w w'))
     case atStart => exact ⟨(x3_1), (0), (wrap64 ((x3_1.length : Int) - 1)), (by first | rfl | (simp; done) | (simp [*]; done)), (by first | rfl | (simp; done) | (simp [*]; done)), H', ⟨Nat.le_refl _⟩, ⟨by (with_reducible repeat (first | apply Kd.R_alloc | apply Kd.R_drewN | apply Kd.R_drew)); exact HO_3.out⟩, ⟨by (with_reducible repeat (first | apply Kd.R_alloc | apply Kd.R_drewN | apply Kd.R_drew)); exact HO_4.out⟩, ⟨by repeat (first | (with_reducible first | exact HB.out | apply below_alloc | apply pw_below_drewN | apply below_drew1) | exact HB.out)⟩⟩
     case round =>
      clear H'
      try clear c1
      try clear c2
      try clear p2
      try clear c3
      try clear c3b0
      try clear c3b1
      try clear c3b2
      try clear p6
      try clear c8
      try clear c8b0
      try clear c8b1
      try clear p2
      obtain ⟨x3_2, x5_2, x6_2, rfl, rfl, HA, HK2, HO_3, HO_4, HB⟩ := hrel
      have hl3_2 := (Kd.R_reads' HO_3.out).1
      rw [hl3_2] at HO_3
      (try simp only [hl3_2])
      (try simp only [hl3_2] at HO_4)
      cases gk with
      | zero => exact absurd HA.out (by simp [bobbinref2_Text.l1])
      | succ k2 =>
       have H := HA.out
       clear HA
       simp only [bobbinref2_Text.l1] at H
       by_cases c10 : x6_2 ≥ 0
       ·rw [if_pos c10] at H
        have c10b0 : decide (0 ≤ x6_2) = true := decide_eq_true c10
        clear c10
        by_cases c11 : 0 ≤ x6_2
        ·rw [if_pos c11] at H
         have c11b0 : decide (0 ≤ x6_2) = true := decide_eq_true c11
         clear c11
         by_cases c12 : x6_2 < (x3_2.length : Int)
         ·rw [if_pos c12] at H
          have c12b0 : decide (x6_2 < (x3_2.length : Int)) = true := decide_eq_true c12
          clear c12
          obtain ⟨y121, hy121⟩ : ∃ y_ : List Int, y_ = (x3_2.set (x6_2 : Int).toNat ((IntKind.u64.wrap (Int.tdiv (Go.bits .or .u64 (IntKind.u64.wrap (x5_2 * 4294967296)) (IntKind.u64.wrap (rd x3_2 x6_2))) 1000000000)) % 4294967296)) := ⟨_, rfl⟩
          replace H : (bobbinref2_Text.l1 k2 y121 x4_1 (Int.tmod (Go.bits .or .u64 (IntKind.u64.wrap (x5_2 * 4294967296)) (IntKind.u64.wrap (rd x3_2 x6_2))) 1000000000) (wrap64 (x6_2 - 1))) = some r := by first | (rw [hy121]; with_reducible exact H) | (have H2_ := (Option.bind_some _ _).symm.trans H; rw [hy121]; with_reducible exact H2_) | (have H2_ := (Option.bind_some _ _).symm.trans H; with_reducible exact H2_) | with_reducible exact H | (rw [hy121]; exact H) | exact H
          have Ny121 := Aside0.mk hy121
          clear hy121
          have H' := Aside0.mk H
          clear H
          have p120 : 0 ≤ (x6_2 : Int) := of_decide_eq_true (by first | (with_reducible assumption) | assumption)
          have q120 : x6_2 < (x3_2.length : Int) := of_decide_eq_true (by first | (with_reducible assumption) | assumption)
          obtain ⟨ad120, e120, hx120_0⟩ := Kd.at_int (Kd.R_reads' HO_3.out).2.2 x6_2 p120 q120
          cases e120
          replace p120 := eq_true p120
          replace q120 := eq_true q120
          have p13 : 0 ≤ (x6_2 : Int) := of_decide_eq_true (by first | (with_reducible assumption) | assumption)
          have q13 : (x6_2 : Int) < ((x3_2.length : Int) : Int) := of_decide_eq_true (by first | (with_reducible assumption) | assumption)
          obtain ⟨go13, co13, eo13, gb13, gl13, cl13, HG13⟩ := Kd.R_form HO_3.out (by omega)
          (first | cases eo13 | (injection eo13 with ea_ en_ ec_; (first | subst ea_ | (injection ea_ with ea_; subst ea_)); subst ec_; clear en_))
          have GB13 := Aside0.mk gb13
          have GG13 := Aside0.mk HG13
          clear gb13 gl13 HG13
          (first | simp only [add_plain] at hx120_0 | skip)
          obtain ⟨hx13_0, hf13_0⟩ := Kd.R_celln 0 HO_3.out (x6_2 : Int) p13 q13
          (try simp only [Int.toNat_natCast] at hx13_0)
          (try simp only [Int.toNat_natCast] at hf13_0)
          replace p13 := eq_true p13
          replace q13 := eq_true q13
          have HP14 := Kd.R_putg HO_3.out (x6_2 : Int) ((IntKind.u64.wrap (Int.tdiv (Go.bits .or .u64 (IntKind.u64.wrap (x5_2 * 4294967296)) (IntKind.u64.wrap (rd x3_2 x6_2))) 1000000000)) % 4294967296)
          go_wp2_with (first | ((with_reducible refine gate_store (t := 35) (p := 39) rfl ?_); refine store_event (t := 35) (p := 39) (v := ?vo_w15) (w1 := (wr.setCell ⟨go13, (x6_2 : Int).toNat, none⟩ (.int .u32 ((IntKind.u64.wrap (Int.tdiv (Go.bits .or .u64 (IntKind.u64.wrap (x5_2 * 4294967296)) (IntKind.u64.wrap (rd x3_2 x6_2))) 1000000000)) % 4294967296)))) ?hg ?ho ?hn ?hr ?_; (case ho => rfl); (case hg => rfl); (case hn => rfl); (case hr => first | (go_simp; done) | (go_simp; rfl) | (obtain ⟨hx_, hf_⟩ := Kd.R_celln 0 HO_3.out (x6_2 : Int) (of_decide_eq_true (by first | (with_reducible assumption) | assumption)) (of_decide_eq_true (by first | (with_reducible assumption) | assumption)); (try simp only [Int.toNat_natCast] at hx_); (try simp only [Int.toNat_natCast] at hf_); first | (go_simp; done) | (go_simp; rfl))); intro w15 hw; have hg : wr.grownBy w15 (some go13) := (by rw [hw]; exact HP14.2); have hp_ : Kd.R (Kd.int .u32) 35 w15 w.heap.size (fun _ => True) (.slice (some ⟨go13, 0, none⟩) x3_2.length co9) y121 := (by rw [hw, Ny121.out]; exact HP14.1); clear HP14; have n0_ := Aside0.mk (hp_); have n1_ := Aside0.mk (Kd.R_over' (v := (.slice (some ⟨go13, 0, none⟩) x3_2.length co9)) (by (with_reducible repeat (first | apply Kd.R_alloc | apply Kd.R_drewN | apply Kd.R_drew)); exact HO_4.out) (Kd.R_typed HO_3.out) (by decide) hg); have n2_ := Aside0.mk ((by rw [hw]; exact below_set (HB.out) GB13.out : Below w.heap.size w w15)); clear HO_3; clear HO_4; clear HB; have HO_3 := n0_; have HO_4 := n1_; have HB := n2_; clear n0_ n1_ n2_; clear hg hw hp_))
          (try simp only [← hl3_2])
          go_roundg k2
          case measure => have := HK1.out; have := HK2.out; omega
          case rel => exact ⟨(y121), (Int.tmod (Go.bits .or .u64 (IntKind.u64.wrap (x5_2 * 4294967296)) (IntKind.u64.wrap (rd x3_2 x6_2))) 1000000000), (wrap64 (x6_2 - 1)), (by first | rfl | (simp; done) | (simp [*]; done)), (by first | rfl | (simp; done) | (simp [*]; done)), H', ⟨by have := HK1.out; have := HK2.out; omega⟩, ⟨by (try simp only [hl3_2]); (with_reducible repeat (first | apply Kd.R_alloc | apply Kd.R_drewN | apply Kd.R_drew)); exact HO_3.out⟩, ⟨by (try simp only [hl3_2]); (with_reducible repeat (first | apply Kd.R_alloc | apply Kd.R_drewN | apply Kd.R_drew)); exact HO_4.out⟩, ⟨by repeat (first | (with_reducible first | exact HB.out | apply below_alloc | apply pw_below_drewN | apply below_drew1) | exact HB.out)⟩⟩
         ·rw [if_neg c12] at H
          exact absurd H (by simp)
        ·rw [if_neg c11] at H
         exact absurd H (by simp)
       ·rw [if_neg c10] at H
        have c10b0 : decide (0 ≤ x6_2) = false := decide_eq_false c10
        clear c10
        replace H := Option.bind_eq_some_iff.mp H
        obtain ⟨t122, A160, H⟩ := H
        replace H : (bobbinref2_Text.l2 k2 t122 x4_1 x5_2 0) = some r := H
        have A16 := Aside0.mk A160
        clear A160
        have H' := Aside0.mk H
        clear H
        go_wp2_with (first | ((with_reducible refine gate_callee (f := 101) rfl ?_); refine goesL_ (some 43) rfl rfl Tryz.func101 (by kernel_rfl) rfl #[.slice Ao9 x3_2.length co9] rfl (by (try simp only [List.map_toArray, List.map_cons, List.map_nil]); first | done | rfl | (simp only [List.length_drop, List.length_take]; rfl)) ?_; (with_reducible refine (bobbinref2_trimmed.calls k2 (fun k_ => some k_ = (.slice Ao9 x3_2.length co9 : Value).ownBlock) (.slice Ao9 x3_2.length co9) x3_2 t122 w _ ?side1 ?side2 A16.out).mono ?_); (case side1 => repeat (first | (with_reducible first | exact HB.out | apply below_alloc | apply pw_below_drewN | apply below_drew1) | exact HB.out)); (case side2 => exact Kd.R_tight rfl HO_3.out); rintro e w17 ⟨v123, rfl, ho0, hb, hkp⟩; refine ⟨_, rfl, ?_⟩; have n0_ := Aside0.mk (Kd.R_mono (ok' := fun k_ => True) (Kd.R_keptB ((Kd.R_apart' HO_4.out (Kd.R_typed HO_3.out) (by decide))) hkp (fun k_ hk_ hs_ => (hk_.2) hs_)) (fun k_ hk_ => trivial)); have n1_ := Aside0.mk (Kd.R_mono (ok' := fun k_ => True) ho0 (fun k_ hk_ => trivial)); have n2_ := Aside0.mk (hb); clear HO_4; clear HB; clear HO_3; have HO_4 := n0_; have HO124 := n1_; have HB := n2_; clear n0_ n1_ n2_; (try clear hb); (try clear hkp); (try clear ho0)))
        go_loopg [4, 5, 7] k2 (fun kq v4 v5 v7 w' => ∃ (x4_3 : List Int) (x5_3 : Int) (x7_3 : Int), v5 = .int .u64 x5_3 ∧ v7 = .int .i64 x7_3 ∧ Aside0 (bobbinref2_Text.l2 kq t122 x4_3 x5_3 x7_3 = some r) ∧ Aside0 (kq ≤ k2) ∧ Aside0 (Kd.R (Kd.int .u32) 35 w' w.heap.size (fun _ => True) v123 t122) ∧ Aside0 (Kd.R (Kd.int .u8) 5 w' w.heap.size (fun _ => True) v4 x4_3) ∧ Aside0 (Below w.heap.size w w'))
        case atStart => exact ⟨(x4_1), (x5_2), (0), (by first | rfl | (simp; done) | (simp [*]; done)), (by first | rfl | (simp; done) | (simp [*]; done)), H', ⟨Nat.le_refl _⟩, ⟨by (try simp only [hl3_2]); (with_reducible repeat (first | apply Kd.R_alloc | apply Kd.R_drewN | apply Kd.R_drew)); exact HO124.out⟩, ⟨by (try simp only [hl3_2]); (with_reducible repeat (first | apply Kd.R_alloc | apply Kd.R_drewN | apply Kd.R_drew)); exact HO_4.out⟩, ⟨by repeat (first | (with_reducible first | exact HB.out | apply below_alloc | apply pw_below_drewN | apply below_drew1) | exact HB.out)⟩⟩
        case round =>
         clear H'
         try clear c1
         try clear p1
         try clear q1
         try clear hx1
         try clear hf1
         try clear c2
         try clear p2
         try clear c3
         try clear c3b0
         try clear c3b1
         try clear c3b2
         try clear c4
         try clear p6
         try clear c8
         try clear c8b0
         try clear c8b1
         try clear c10
         try clear c10b0
         try clear c11
         try clear c11b0
         try clear c12
         try clear c12b0
         try clear p12
         try clear q12
         try clear hx12
         try clear p13
         try clear q13
         try clear hx13
         try clear hf13
         try clear c14
         try clear hx120_0
         try clear hx13_0
         try clear p120
         try clear p13
         try clear p2
         try clear p6
         try clear q120
         try clear q13
         obtain ⟨x4_3, x5_3, x7_3, rfl, rfl, HA, HK3, HO_3, HO_4, HB⟩ := hrel
         cases gk with
         | zero => exact absurd HA.out (by simp [bobbinref2_Text.l2])
         | succ k3 =>
          have H := HA.out
          clear HA
          simp only [bobbinref2_Text.l2] at H
          by_cases c18 : x7_3 < 9
          ·rw [if_pos c18] at H
           have c18b0 : decide (x7_3 < 9) = true := decide_eq_true c18
           clear c18
           by_cases c19 : x4_3.length < 140737488355328
           ·rw [if_pos c19] at H
            have LMc19 := Aside0.mk c19
            clear c19
            obtain ⟨y125, hy125⟩ : ∃ y_ : List Int, y_ = (x4_3 ++ [(IntKind.u64.wrap (48 + (Int.tmod x5_3 10))) % 256]) := ⟨_, rfl⟩
            replace H : (bobbinref2_Text.l2 k3 t122 y125 (IntKind.u64.wrap (Int.tdiv x5_3 10)) (wrap64 (x7_3 + 1))) = some r := by first | (rw [hy125]; with_reducible exact H) | (have H2_ := (Option.bind_some _ _).symm.trans H; rw [hy125]; with_reducible exact H2_) | (have H2_ := (Option.bind_some _ _).symm.trans H; with_reducible exact H2_) | with_reducible exact H | (rw [hy125]; exact H) | exact H
            have Ny125 := Aside0.mk hy125
            clear hy125
            have H' := Aside0.mk H
            clear H
            go_wp2_with (first | ((with_reducible refine gate_builtin (b := .append) (xs := #[.tmp 48, .tmp 53]) rfl ?_); at_builtin; refine Kd.R_append (Kd.int .u8) (w0 := w) w.heap.size rfl (.tmp 48) (.tmp 53) 110 5 (.int .u8 0) 1 rfl Tryz.underlying110 info5 rfl (by decide) (by omega) u4 x4_3 ((IntKind.u64.wrap (48 + (Int.tmod x5_3 10))) % 256) [.int .u8 ((IntKind.u64.wrap (48 + (Int.tmod x5_3 10))) % 256)] (fun _ => True) (fun _ => False) rfl rfl ?aP (fun _ hk => hk.elim) ?aF ?aO ?aB ?aS ?aL ?_; (case aP => exact rfl); (case aB => exact (by repeat (first | (with_reducible first | exact HB.out | apply below_alloc | apply pw_below_drewN | apply below_drew1) | exact HB.out))); (case aF => exact (fun _ _ => trivial)); (case aO => exact (by (with_reducible repeat (first | apply Kd.R_alloc | apply Kd.R_drewN | apply Kd.R_drew)); exact HO_4.out)); (case aS => exact (below_size (by repeat (first | (with_reducible first | exact HB.out | apply below_alloc | apply pw_below_drewN | apply below_drew1) | exact HB.out)))); (case aL => have := LMc19.out; omega); intro v126 w20 ho hb hg hat; rw [← Ny125.out] at ho; have n0_ := Aside0.mk (Kd.R_over' (by (with_reducible repeat (first | apply Kd.R_alloc | apply Kd.R_drewN | apply Kd.R_drew)); exact HO_3.out) (Kd.R_typed (by (with_reducible repeat (first | apply Kd.R_alloc | apply Kd.R_drewN | apply Kd.R_drew)); exact HO_4.out)) (by decide) hg); have n1_ := Aside0.mk (hb); have n2_ := Aside0.mk (ho); clear HO_3; clear HB; clear HO_4; have HO_3 := n0_; have HB := n1_; have HO127 := n2_; clear n0_ n1_ n2_; clear ho hb hg hat))
            go_roundg k3
            case measure => have := HK1.out; have := HK2.out; have := HK3.out; omega
            case rel => exact ⟨(y125), (IntKind.u64.wrap (Int.tdiv x5_3 10)), (wrap64 (x7_3 + 1)), (by first | rfl | (simp; done) | (simp [*]; done)), (by first | rfl | (simp; done) | (simp [*]; done)), H', ⟨by have := HK1.out; have := HK2.out; have := HK3.out; omega⟩, ⟨by (try simp only [hl3_2]); (with_reducible repeat (first | apply Kd.R_alloc | apply Kd.R_drewN | apply Kd.R_drew)); exact HO_3.out⟩, ⟨by (try simp only [hl3_2]); (with_reducible repeat (first | apply Kd.R_alloc | apply Kd.R_drewN | apply Kd.R_drew)); exact HO127.out⟩, ⟨by repeat (first | (with_reducible first | exact HB.out | apply below_alloc | apply pw_below_drewN | apply below_drew1) | exact HB.out)⟩⟩
           ·rw [if_neg c19] at H
            exact absurd H (by simp)
          ·rw [if_neg c18] at H
           have c18b0 : decide (x7_3 < 9) = false := decide_eq_false c18
           clear c18
           have H' := Aside0.mk H
           clear H
           go_wp2
           (try simp only [← hl3_2])
           go_roundg k3
           case measure => have := HK1.out; have := HK2.out; have := HK3.out; omega
           case rel => exact ⟨(t122), (x4_3), H', ⟨by have := HK1.out; have := HK2.out; have := HK3.out; omega⟩, ⟨by (try simp only [hl3_2]); (with_reducible repeat (first | apply Kd.R_alloc | apply Kd.R_drewN | apply Kd.R_drew)); exact HO_3.out⟩, ⟨by (try simp only [hl3_2]); (with_reducible repeat (first | apply Kd.R_alloc | apply Kd.R_drewN | apply Kd.R_drew)); exact HO_4.out⟩, ⟨by repeat (first | (with_reducible first | exact HB.out | apply below_alloc | apply pw_below_drewN | apply below_drew1) | exact HB.out)⟩⟩
    ·rw [if_neg c8] at H
     have c8b0 : decide (0 < (x3_1.length : Int)) = false := decide_eq_false c8
     have c8b1 : decide (0 < x3_1.length) = false := decide_eq_false (by omega)
     clear c8
     have HC21 := Aside0.mk H
     clear H
     obtain ⟨Ao22, co22, eo22⟩ := Kd.R_slice HO_3.out
     subst eo22
     obtain ⟨Ao23, co23, eo23⟩ := Kd.R_slice HO_4.out
     subst eo23
     go_upto_block 6 with (fail)
     go_cut [8] (fun v8 wc => ∃ (kq : Nat) (x8_20 : Int), v8 = .int .i64 x8_20 ∧ Aside0 (bobbinref2_Text.j4 kq x4_1 x8_20 = some r) ∧ Aside0 (kq ≤ k1) ∧ Aside0 (Kd.R (Kd.int .u8) 5 wc w.heap.size (fun _ => True) (.slice Ao23 x4_1.length co23) x4_1) ∧ Aside0 (Below w.heap.size w wc))
     case first =>
      have H := HC21.out
      clear HC21
      have H' := Aside0.mk H
      clear H
      go_wp2
      go_loopg [8] k1 (fun kq v8 w' => ∃ (x8_2 : Int), v8 = .int .i64 x8_2 ∧ Aside0 (bobbinref2_Text.l3 kq x4_1 x8_2 = some r) ∧ Aside0 (kq ≤ k1) ∧ Aside0 (Kd.R (Kd.int .u8) 5 w' w.heap.size (fun _ => True) (.slice Ao23 x4_1.length co23) x4_1) ∧ Aside0 (Below w.heap.size w w'))
      case atStart => exact ⟨((x4_1.length : Int)), (by first | rfl | (simp; done) | (simp [*]; done)), H', ⟨Nat.le_refl _⟩, ⟨by (with_reducible repeat (first | apply Kd.R_alloc | apply Kd.R_drewN | apply Kd.R_drew)); exact HO_4.out⟩, ⟨by repeat (first | (with_reducible first | exact HB.out | apply below_alloc | apply pw_below_drewN | apply below_drew1) | exact HB.out)⟩⟩
      case round =>
       clear H'
       try clear c1
       try clear p1
       try clear q1
       try clear hx1
       try clear hf1
       try clear c2
       try clear p2
       try clear c3
       try clear c3b0
       try clear c3b1
       try clear c3b2
       try clear c4
       try clear p6
       try clear c8
       try clear c8b0
       try clear c8b1
       try clear c10
       try clear c10b0
       try clear c11
       try clear c11b0
       try clear c12
       try clear c12b0
       try clear p12
       try clear q12
       try clear hx12
       try clear p13
       try clear q13
       try clear hx13
       try clear hf13
       try clear c14
       try clear c18
       try clear c18b0
       try clear c19
       try clear hx120_0
       try clear hx13_0
       try clear p1
       try clear p12
       try clear p120
       try clear p13
       try clear p2
       try clear p6
       try clear q1
       try clear q12
       try clear q120
       try clear q13
       obtain ⟨x8_2, rfl, HA, HK2, HO_4, HB⟩ := hrel
       cases gk with
       | zero => exact absurd HA.out (by simp [bobbinref2_Text.l3])
       | succ k2 =>
        have H := HA.out
        clear HA
        simp only [bobbinref2_Text.l3] at H
        by_cases c24 : x8_2 > 1
        ·rw [if_pos c24] at H
         have c24b0 : decide (1 < x8_2) = true := decide_eq_true c24
         clear c24
         (first | rw [c24b0] | (simp only [i64_w, i32_w]; rw [c24b0]) | rw [c24b1] | skip)
         obtain ⟨ji25, hji25⟩ : ∃ j_ : Int, (wrap64 (x8_2 - 1)) = j_ := ⟨_, rfl⟩
         replace H : (if 0 ≤ (ji25) then (if (ji25) < (x4_1.length : Int) then (if (rd x4_1 (ji25)) = 48 then (bobbinref2_Text.l3 k2 x4_1 ji25) else (bobbinref2_Text.j4 k2 x4_1 x8_2)) else (none)) else (none)) = some r := by first | (rw [hji25] at H; exact H) | (simp only [hji25] at H ⊢; exact H)
         have hji25w : (IntKind.i64.wrap (x8_2 - 1)) = ji25 := (i64_w _).trans hji25
         by_cases c26 : 0 ≤ (ji25)
         ·rw [if_pos c26] at H
          have c26b0 : decide (0 ≤ (ji25)) = true := decide_eq_true c26
          clear c26
          by_cases c27 : (ji25) < (x4_1.length : Int)
          ·rw [if_pos c27] at H
           have c27b0 : decide ((ji25) < (x4_1.length : Int)) = true := decide_eq_true c27
           clear c27
           by_cases c28 : (rd x4_1 (ji25)) = 48
           ·rw [if_pos c28] at H
            have c28b0 : ((rd x4_1 (ji25)) == 48) = true := beq_iff_eq.mpr c28
            have c28b1 : ((rd x4_1 (ji25)) != 48) = false := bne_eq_false_iff_eq.mpr c28
            clear c28
            have H' := Aside0.mk H
            clear H
            have p128 : 0 ≤ ((ji25) : Int) := of_decide_eq_true (by first | (with_reducible assumption) | assumption)
            have q128 : (ji25) < (x4_1.length : Int) := of_decide_eq_true (by first | (with_reducible assumption) | assumption)
            obtain ⟨ad128, e128, hx128_0⟩ := Kd.at_int (Kd.R_reads' HO_4.out).2.2 (ji25) p128 q128
            cases e128
            replace p128 := eq_true p128
            replace q128 := eq_true q128
            go_wp2
            go_roundg k2
            case measure => have := HK1.out; have := HK2.out; omega
            case rel => exact ⟨(ji25), (by first | rfl | (simp; done) | (simp only [← hji25] <;> (first | rfl | simp)) | (simp [*]; done)), H', ⟨by have := HK1.out; have := HK2.out; omega⟩, ⟨by (with_reducible repeat (first | apply Kd.R_alloc | apply Kd.R_drewN | apply Kd.R_drew)); exact HO_4.out⟩, ⟨by repeat (first | (with_reducible first | exact HB.out | apply below_alloc | apply pw_below_drewN | apply below_drew1) | exact HB.out)⟩⟩
           ·rw [if_neg c28] at H
            have c28b0 : ((rd x4_1 (ji25)) == 48) = false := beq_eq_false_iff_ne.mpr c28
            have c28b1 : ((rd x4_1 (ji25)) != 48) = true := bne_iff_ne.mpr c28
            have H' := Aside0.mk H
            clear H
            have p128 : 0 ≤ ((ji25) : Int) := of_decide_eq_true (by first | (with_reducible assumption) | assumption)
            have q128 : (ji25) < (x4_1.length : Int) := of_decide_eq_true (by first | (with_reducible assumption) | assumption)
            obtain ⟨ad128, e128, hx128_0⟩ := Kd.at_int (Kd.R_reads' HO_4.out).2.2 (ji25) p128 q128
            cases e128
            replace p128 := eq_true p128
            replace q128 := eq_true q128
            go_wp2
            go_meet
            case rel => exact ⟨_, (x8_2), (by first | rfl | (simp; done) | (simp [*]; done)), H', ⟨by have := HK1.out; have := HK2.out; first | omega | exact Nat.le_refl _⟩, ⟨by (with_reducible repeat (first | apply Kd.R_alloc | apply Kd.R_drewN | apply Kd.R_drew)); exact HO_4.out⟩, ⟨by repeat (first | (with_reducible first | exact HB.out | apply below_alloc | apply pw_below_drewN | apply below_drew1) | exact HB.out)⟩⟩
          ·rw [if_neg c27] at H
           exact absurd H (by simp)
         ·rw [if_neg c26] at H
          exact absurd H (by simp)
        ·rw [if_neg c24] at H
         have c24b0 : decide (1 < x8_2) = false := decide_eq_false c24
         clear c24
         (first | rw [c24b0] | (simp only [i64_w, i32_w]; rw [c24b0]) | rw [c24b1] | skip)
         have H' := Aside0.mk H
         clear H
         go_wp2
         go_meet
         case rel => exact ⟨_, (x8_2), (by first | rfl | (simp; done) | (simp [*]; done)), H', ⟨by have := HK1.out; have := HK2.out; first | omega | exact Nat.le_refl _⟩, ⟨by (with_reducible repeat (first | apply Kd.R_alloc | apply Kd.R_drewN | apply Kd.R_drew)); exact HO_4.out⟩, ⟨by repeat (first | (with_reducible first | exact HB.out | apply below_alloc | apply pw_below_drewN | apply below_drew1) | exact HB.out)⟩⟩
     case rest =>
      clear HC21
      try clear c1
      try clear p1
      try clear q1
      try clear hx1
      try clear hf1
      try clear c2
      try clear p2
      try clear c3
      try clear c3b0
      try clear c3b1
      try clear c3b2
      try clear c4
      try clear p6
      try clear c8
      try clear c8b0
      try clear c8b1
      try clear c10
      try clear c10b0
      try clear c11
      try clear c11b0
      try clear c12
      try clear c12b0
      try clear p12
      try clear q12
      try clear hx12
      try clear p13
      try clear q13
      try clear hx13
      try clear hf13
      try clear c14
      try clear c18
      try clear c18b0
      try clear c19
      try clear c24
      try clear c24b0
      try clear c24b1
      try clear c26
      try clear c26b0
      try clear c27
      try clear c27b0
      try clear c28
      try clear c28b0
      try clear c28b1
      try clear hx120_0
      try clear hx128_0
      try clear hx13_0
      try clear p1
      try clear p12
      try clear p120
      try clear p128
      try clear p13
      try clear p2
      try clear p6
      try clear q1
      try clear q12
      try clear q120
      try clear q128
      try clear q13
      obtain ⟨kq, x8_20, rfl, HA, HJ20, HO_4, HB⟩ := hcut
      cases kq with
      | zero => exact absurd HA.out (by simp [bobbinref2_Text.j4])
      | succ kj20 =>
       have H := HA.out
       clear HA
       simp only [bobbinref2_Text.j4] at H
       have H' := Aside0.mk H
       clear H
       go_wp2
       go_loopg [9, 10] kj20 (fun kq v9 v10 w' => ∃ (x9_3 : List Int) (x10_3 : Int), v10 = .int .i64 x10_3 ∧ Aside0 (bobbinref2_Text.l4 kq x4_1 x9_3 x10_3 = some r) ∧ Aside0 (kq ≤ kj20) ∧ Aside0 (Kd.R (Kd.int .u8) 5 w' w.heap.size (fun k_ => some k_ ≠ (v9 : Value).ownBlock) (.slice Ao23 x4_1.length co23) x4_1) ∧ Aside0 (Kd.R (Kd.int .u8) 5 w' w.heap.size (fun k_ => some k_ ≠ ((.slice Ao23 x4_1.length co23) : Value).ownBlock) v9 x9_3) ∧ Aside0 (Below w.heap.size w w'))
       case atStart => exact ⟨(([] : List Int)), (wrap64 (x8_20 - 1)), (by first | rfl | (simp; done) | (simp [*]; done)), H', ⟨Nat.le_refl _⟩, ⟨by (with_reducible repeat (first | apply Kd.R_alloc | apply Kd.R_drewN | apply Kd.R_drew)); exact Kd.R_mono HO_4.out (fun _ hk => (by simp [Value.ownBlock]))⟩, ⟨by first | exact Kd.R_nil _ _ _ _ _ | exact Kd.R_nil _ 5 _ 0 (fun _ => False) | exact Kd.R_nil _ 5 _ 0 _ | exact Kd.R_nil _ _ _ _ _ | exact Kd.N_nil _ _ _ _ _ | exact Kd.V_nil _ _ _ _ _ | exact Kd.Q_nil _ _ _ _ _ | exact Kd.S_nil _ _ _ _ _⟩, ⟨by repeat (first | (with_reducible first | exact HB.out | apply below_alloc | apply pw_below_drewN | apply below_drew1) | exact HB.out)⟩⟩
       case round =>
        clear H'
        try clear c1
        try clear p1
        try clear q1
        try clear hx1
        try clear hf1
        try clear c2
        try clear p2
        try clear c3
        try clear c3b0
        try clear c3b1
        try clear c3b2
        try clear c4
        try clear p6
        try clear c8
        try clear c8b0
        try clear c8b1
        try clear c10
        try clear c10b0
        try clear c11
        try clear c11b0
        try clear c12
        try clear c12b0
        try clear p12
        try clear q12
        try clear hx12
        try clear p13
        try clear q13
        try clear hx13
        try clear hf13
        try clear c14
        try clear c18
        try clear c18b0
        try clear c19
        try clear c24
        try clear c24b0
        try clear c24b1
        try clear c26
        try clear c26b0
        try clear c27
        try clear c27b0
        try clear c28
        try clear c28b0
        try clear c28b1
        try clear hx120_0
        try clear hx128_0
        try clear hx13_0
        try clear p1
        try clear p12
        try clear p120
        try clear p128
        try clear p13
        try clear p2
        try clear p6
        try clear q1
        try clear q12
        try clear q120
        try clear q128
        try clear q13
        obtain ⟨x9_3, x10_3, rfl, HA, HK3, HO_4, HO_9, HB⟩ := hrel
        cases gk with
        | zero => exact absurd HA.out (by simp [bobbinref2_Text.l4])
        | succ k3 =>
         have H := HA.out
         clear HA
         simp only [bobbinref2_Text.l4] at H
         by_cases c29 : x10_3 ≥ 0
         ·rw [if_pos c29] at H
          have c29b0 : decide (0 ≤ x10_3) = true := decide_eq_true c29
          clear c29
          by_cases c30 : 0 ≤ x10_3
          ·rw [if_pos c30] at H
           have c30b0 : decide (0 ≤ x10_3) = true := decide_eq_true c30
           clear c30
           by_cases c31 : x10_3 < (x4_1.length : Int)
           ·rw [if_pos c31] at H
            have c31b0 : decide (x10_3 < (x4_1.length : Int)) = true := decide_eq_true c31
            clear c31
            by_cases c32 : x9_3.length < 140737488355328
            ·rw [if_pos c32] at H
             have LMc32 := Aside0.mk c32
             clear c32
             obtain ⟨y130, hy130⟩ : ∃ y_ : List Int, y_ = (x9_3 ++ [rd x4_1 x10_3]) := ⟨_, rfl⟩
             replace H : (bobbinref2_Text.l4 k3 x4_1 y130 (wrap64 (x10_3 - 1))) = some r := by first | (rw [hy130]; with_reducible exact H) | (have H2_ := (Option.bind_some _ _).symm.trans H; rw [hy130]; with_reducible exact H2_) | (have H2_ := (Option.bind_some _ _).symm.trans H; with_reducible exact H2_) | with_reducible exact H | (rw [hy130]; exact H) | exact H
             have Ny130 := Aside0.mk hy130
             clear hy130
             have H' := Aside0.mk H
             clear H
             have p129 : 0 ≤ (x10_3 : Int) := of_decide_eq_true (by first | (with_reducible assumption) | assumption)
             have q129 : x10_3 < (x4_1.length : Int) := of_decide_eq_true (by first | (with_reducible assumption) | assumption)
             obtain ⟨ad129, e129, hx129_0⟩ := Kd.at_int (Kd.R_reads' HO_4.out).2.2 x10_3 p129 q129
             cases e129
             replace p129 := eq_true p129
             replace q129 := eq_true q129
             go_wp2_with (first | ((with_reducible refine gate_builtin (b := .append) (xs := #[.tmp 77, .tmp 82]) rfl ?_); at_builtin; refine Kd.R_append (Kd.int .u8) (w0 := w) w.heap.size rfl (.tmp 77) (.tmp 82) 110 5 (.int .u8 0) 1 rfl Tryz.underlying110 info5 rfl (by decide) (by omega) u9 x9_3 (rd x4_1 x10_3) [.int .u8 (rd x4_1 x10_3)] (fun k_ => some k_ ≠ (.slice (some ad129) x4_1.length co23 : Value).ownBlock) (fun _ => False) rfl rfl ?aP (fun _ hk => hk.elim) ?aF ?aO ?aB ?aS ?aL ?_; (case aP => exact rfl); (case aB => exact (by repeat (first | (with_reducible first | exact HB.out | apply below_alloc | apply pw_below_drewN | apply below_drew1) | exact HB.out))); (case aF => exact (fun k_ hk => Kd.fresh' (Kd.R_lt (by (with_reducible repeat (first | apply Kd.R_alloc | apply Kd.R_drewN | apply Kd.R_drew)); exact HO_4.out)) k_ hk)); (case aO => exact (by (with_reducible repeat (first | apply Kd.R_alloc | apply Kd.R_drewN | apply Kd.R_drew)); exact HO_9.out)); (case aS => exact (below_size (by repeat (first | (with_reducible first | exact HB.out | apply below_alloc | apply pw_below_drewN | apply below_drew1) | exact HB.out)))); (case aL => have := LMc32.out; omega); intro v131 w33 ho hb hg hat; rw [← Ny130.out] at ho; have n0_ := Aside0.mk (Kd.R_after (ok := (fun _ => True)) (by (with_reducible repeat (first | apply Kd.R_alloc | apply Kd.R_drewN | apply Kd.R_drew)); exact Kd.R_mono HO_4.out (fun _ hk => ⟨trivial, hk⟩)) hg hat); have n1_ := Aside0.mk (hb); have n2_ := Aside0.mk (ho); clear HO_4; clear HB; clear HO_9; have HO_4 := n0_; have HB := n1_; have HO132 := n2_; clear n0_ n1_ n2_; clear ho hb hg hat))
             go_roundg k3
             case measure => have := HK1.out; have := HJ20.out; have := HK3.out; omega
             case rel => exact ⟨(y130), (wrap64 (x10_3 - 1)), (by first | rfl | (simp; done) | (simp [*]; done)), H', ⟨by have := HK1.out; have := HJ20.out; have := HK3.out; omega⟩, ⟨by (with_reducible repeat (first | apply Kd.R_alloc | apply Kd.R_drewN | apply Kd.R_drew)); exact Kd.R_mono HO_4.out (fun _ hk => hk.2)⟩, ⟨by (with_reducible repeat (first | apply Kd.R_alloc | apply Kd.R_drewN | apply Kd.R_drew)); exact HO132.out⟩, ⟨by repeat (first | (with_reducible first | exact HB.out | apply below_alloc | apply pw_below_drewN | apply below_drew1) | exact HB.out)⟩⟩
            ·rw [if_neg c32] at H
             exact absurd H (by simp)
           ·rw [if_neg c31] at H
            exact absurd H (by simp)
          ·rw [if_neg c30] at H
           exact absurd H (by simp)
         ·rw [if_neg c29] at H
          have c29b0 : decide (0 ≤ x10_3) = false := decide_eq_false c29
          clear c29
          obtain rfl := Option.some.inj H
          have hcv34 := own_string (P := Tryz.prog) Tryz.underlying110 Tryz.underlying5 Tryz.underlying9 (Kd.own_of_R HO_9.out)
          go_wp2
          go_ret
          exact ⟨by first | rfl | (simp [errW_none, errW_some] <;> rfl) | (simp [*, errW_none, errW_some] <;> rfl), by repeat (first | (with_reducible first | exact HB.out | apply below_alloc | apply pw_below_drewN | apply below_drew1) | exact HB.out)⟩
end Go.Proofs.YtdoeigngpemcgaaGreatDoor.PNatO
namespace Go.Proofs.YtdoeigngpemcgaaGreatDoor.PNat
open Go.RowKit Go.Proofs.YtdoeigngpemcgaaGreatDoorW.PrintWords Go.Proofs.YtdoeigngpemcgaaGreatDoorW.PrintLast Go.Proofs.YtdoeigngpemcgaaGreatDoorW.PrintMore
attribute [local go_sem] max2_int min2_int max_two min_two max_three min_three max_four min_four
set_option linter.unusedVariables false
set_option linter.unusedSimpArgs false
-- IMPORT Derived.Test.YtdoeigngpemcgaaGreatDoorPNatOx
def bobbinref2_Text.f (k : Nat) (l0 : List Int) : Option ByteArray := Go.Proofs.YtdoeigngpemcgaaGreatDoor.PNatO.bobbinref2_Text.f k l0
theorem bobbinref2_Text.calls (k : Nat) (A0 : Option Addr) (c0 : Nat) (l0 : List Int) (r : ByteArray) (w : World) (hr0 : Kd.C (Kd.int .u32) w A0 l0.length l0) (hc0 : l0.length ≤ c0) (h : bobbinref2_Text.f k l0 = some r) :
  Calls Tryz.prog 47 #[.slice A0 l0.length c0] w fun e w' => e = .returned (.string r) ∧ Below w.heap.size w w' := Go.Proofs.YtdoeigngpemcgaaGreatDoor.PNatO.bobbinref2_Text.calls k A0 c0 l0 r w hr0 hc0 h
end Go.Proofs.YtdoeigngpemcgaaGreatDoor.PNat
namespace Go.Proofs.YtdoeigngpemcgaaGreatDoor.Pure
open Go.RowKit Go.Proofs.YtdoeigngpemcgaaGreatDoor.PNat Go.Proofs.YtdoeigngpemcgaaGreatDoorW.PrintWords Go.Proofs.YtdoeigngpemcgaaGreatDoorW.PrintLast Go.Proofs.YtdoeigngpemcgaaGreatDoorW.PrintMore
set_option linter.unusedVariables false
set_option linter.unusedSimpArgs false
theorem ev_norm (l : List Int) (hl : l.length ≤ 1000000000) : Ev (fun k => nat_Norm.f k l) (Num.trimW l) := by
 unfold nat_Norm.f
 refine Ev.bind (ev_trim l hl) ?_
 have := Num.trimW_length_le l
 refine Ev.congr (fun k => ?_) (Ev.now (Num.trimW l))
 simp only [slices_Clone_uint32_uint32.f]
 rw [if_pos (by omega)]
 rfl
theorem take_zero_step {l : List Int} {j : Nat} (hj : j < l.length) (h : rd l (j : Int) = 0) : Num.trimW (l.take (j + 1)) = Num.trimW (l.take j) := by
 rw [List.take_succ_eq_append_getElem hj]
 have e : l[j] = 0 := by simpa [rd, List.getD_eq_getElem?_getD, List.getElem?_eq_getElem hj] using h
 rw [e, Num.trimW_snoc_zero]
theorem take_ne_step {l : List Int} {j : Nat} (hj : j < l.length) (h : ¬ rd l (j : Int) = 0) : Num.trimW (l.take (j + 1)) = l.take (j + 1) := by
 rw [List.take_succ_eq_append_getElem hj]
 have e : l[j] ≠ 0 := by
  intro e
  apply h
  simpa [rd, List.getD_eq_getElem?_getD, List.getElem?_eq_getElem hj] using e
 rw [Num.trimW_snoc_ne _ e]
theorem rnorm_l0 (l : List Int) (hl : l.length ≤ 1000000000) : ∀ i : Nat, i ≤ l.length → Ev (fun k => bobbinref2_Norm.l0 k l (i : Int)) (Num.trimW (l.take i)) := by
 intro i
 induction i with
 | zero =>
  intro _
  refine Ev.step (f := fun _ => some (Num.trimW (l.take 0))) (fun k => ?_) (Ev.now _)
  simp only [bobbinref2_Norm.l0]
  rw [if_neg (by omega), if_pos (by omega), if_pos (by omega), if_pos (by simp)]
  simp [Num.trimW]
 | succ j ih =>
  intro hj
  have e1 : wrap64 (((j + 1 : Nat) : Int) - 1) = (j : Int) := by rw [i64_id (by omega) (by omega)]; omega
  by_cases h : rd l (j : Int) = 0
  ·refine Ev.step (fun k => ?_) (by rw [take_zero_step (by omega) h]; exact ih (by omega))
   simp only [bobbinref2_Norm.l0]
   rw [if_pos (by omega), e1, if_pos (by omega), if_pos (by omega), if_pos h]
  ·refine Ev.step (f := fun _ => some (Num.trimW (l.take (j + 1)))) (fun k => ?_) (Ev.now _)
   simp only [bobbinref2_Norm.l0]
   rw [if_pos (by omega), e1, if_pos (by omega), if_pos (by omega), if_neg h, if_pos (by omega), if_pos (by omega), if_pos (by simp; omega), take_ne_step (by omega) h]
   rfl
theorem ev_rnorm (l : List Int) (hl : l.length ≤ 1000000000) : Ev (fun k => bobbinref2_Norm.f k l) (Num.trimW l) := by
 unfold bobbinref2_Norm.f
 have := rnorm_l0 l hl l.length (Nat.le_refl _)
 rwa [List.take_length] at this
open Go.Proofs.YtdoeigngpemcgaaGreatDoor.PNatO in
theorem otrim_l0 (l : List Int) (hl : l.length ≤ 1000000000) : ∀ i : Nat, i ≤ l.length → Ev (fun k => PNatO.bobbinref2_trimmed.l0 k l (i : Int)) (Num.trimW (l.take i)) := by
 intro i
 induction i with
 | zero =>
  intro _
  refine Ev.step (f := fun _ => some (Num.trimW (l.take 0))) (fun k => ?_) (Ev.now _)
  simp only [PNatO.bobbinref2_trimmed.l0]
  rw [if_neg (by omega), if_pos (by omega), if_pos (by omega)]
  simp [Num.trimW]
 | succ j ih =>
  intro hj
  have e1 : wrap64 (((j + 1 : Nat) : Int) - 1) = (j : Int) := by rw [i64_id (by omega) (by omega)]; omega
  by_cases h : rd l (j : Int) = 0
  ·refine Ev.step (fun k => ?_) (by rw [take_zero_step (by omega) h]; exact ih (by omega))
   simp only [PNatO.bobbinref2_trimmed.l0]
   rw [if_pos (by omega), e1, if_pos (by omega), if_pos (by omega), if_pos h]
  ·refine Ev.step (f := fun _ => some (Num.trimW (l.take (j + 1)))) (fun k => ?_) (Ev.now _)
   simp only [PNatO.bobbinref2_trimmed.l0]
   rw [if_pos (by omega), e1, if_pos (by omega), if_pos (by omega), if_neg h, if_pos (by omega), if_pos (by omega), take_ne_step (by omega) h]
   rfl
theorem ev_otrim (l : List Int) (hl : l.length ≤ 1000000000) : Ev (fun k => PNatO.bobbinref2_trimmed.f k l) (Num.trimW l) := by
 unfold PNatO.bobbinref2_trimmed.f
 have := otrim_l0 l hl l.length (Nat.le_refl _)
 rwa [List.take_length] at this
theorem onorm_l0 (l : List Int) (hl : l.length ≤ 1000000000) : ∀ i : Nat, i ≤ l.length → Ev (fun k => PNat.bobbinref2_Norm.l0 k l (i : Int)) (Num.trimW (l.take i)) := by
 intro i
 induction i with
 | zero =>
  intro _
  refine Ev.step (f := fun _ => some (Num.trimW (l.take 0))) (fun k => ?_) (Ev.now _)
  simp only [PNat.bobbinref2_Norm.l0]
  rw [if_neg (by omega), if_pos (by omega), if_pos (by omega), if_pos (by simp)]
  simp [Num.trimW]
 | succ j ih =>
  intro hj
  have e1 : wrap64 (((j + 1 : Nat) : Int) - 1) = (j : Int) := by rw [i64_id (by omega) (by omega)]; omega
  by_cases h : rd l (j : Int) = 0
  ·refine Ev.step (fun k => ?_) (by rw [take_zero_step (by omega) h]; exact ih (by omega))
   simp only [PNat.bobbinref2_Norm.l0]
   rw [if_pos (by omega), e1, if_pos (by omega), if_pos (by omega), if_pos h]
  ·refine Ev.step (f := fun _ => some (Num.trimW (l.take (j + 1)))) (fun k => ?_) (Ev.now _)
   simp only [PNat.bobbinref2_Norm.l0]
   rw [if_pos (by omega), e1, if_pos (by omega), if_pos (by omega), if_neg h, if_pos (by omega), if_pos (by omega), if_pos (by simp; omega), take_ne_step (by omega) h]
   rfl
theorem ev_onorm (l : List Int) (hl : l.length ≤ 1000000000) : Ev (fun k => PNat.bobbinref2_Norm.f k l) (Num.trimW l) := by
 unfold PNat.bobbinref2_Norm.f
 have := onorm_l0 l hl l.length (Nat.le_refl _)
 rwa [List.take_length] at this
theorem or_join {c x : Int} (hc0 : 0 ≤ c) (hc1 : c < 1000000000) (hx0 : 0 ≤ x) (hx1 : x < 4294967296) : bits .or .u64 (IntKind.u64.wrap (c * 4294967296)) (IntKind.u64.wrap x) = c * 4294967296 + x := by
 rw [u64_id (x := c * 4294967296) (by omega) (by omega), u64_id hx0 (by omega), u64_or _ _ (by omega) (by omega) (by omega) (by omega), nat_join 32 _ _ (by omega) (by omega)]
 omega
/-- nine digits of a piece, the lowest first -/
def rev9 (n : Int) : List Int := (List.range 9).map fun t => 48 + n / 10 ^ t % 10
theorem div_10 (n : Int) (k : Nat) : n / 10 ^ k / 10 = n / 10 ^ (k + 1) := by
 rw [Int.ediv_ediv_of_nonneg (Int.pow_nonneg (by decide)), Int.pow_succ]
theorem rtext_l2 (m b : List Int) (c : Int) (hc0 : 0 ≤ c) (hc1 : c < 1000000000) (R : ByteArray) (hb : b.length ≤ 100000000) (hR : Ev (fun k => PNatO.bobbinref2_Text.l0 k m (b ++ rev9 c)) R) (d : Nat) : ∀ t : Nat, t + d = 9 →
  Ev (fun k => PNatO.bobbinref2_Text.l2 k m (b ++ (List.range t).map (fun t => 48 + c / 10 ^ t % 10)) (c / 10 ^ t) (t : Int)) R := by
 induction d with
 | zero =>
  intro t ht
  obtain rfl : t = 9 := by omega
  refine Ev.step (fun k => ?_) hR
  simp only [PNatO.bobbinref2_Text.l2]
  rw [if_neg (by omega)]
  rfl
 | succ d ih =>
  intro t ht
  have h0 : 0 ≤ c / 10 ^ t := Int.ediv_nonneg hc0 (Int.pow_nonneg (by decide))
  have h1 : c / 10 ^ t < 1000000000 := Int.lt_of_le_of_lt (Int.ediv_le_self _ hc0) hc1
  refine Ev.step (fun k => ?_) (ih (t + 1) (by omega))
  simp only [PNatO.bobbinref2_Text.l2]
  rw [if_pos (by omega), if_pos (by simp; omega), i64_id (by omega) (by omega), List.range_succ, List.map_append, ← List.append_assoc]
  have e1 : IntKind.u64.wrap (48 + (c / 10 ^ t).tmod 10) % 256 = 48 + c / 10 ^ t % 10 := by
   rw [Int.tmod_eq_emod_of_nonneg h0, u64_id (by omega) (by omega)]
   omega
  have e2 : IntKind.u64.wrap ((c / 10 ^ t).tdiv 10) = c / 10 ^ (t + 1) := by
   rw [Int.tdiv_eq_ediv_of_nonneg h0, u64_id (by omega) (by omega), div_10]
  rw [e1, e2]
  rfl
theorem rtext_l1 (ml b : List Int) (hok : Num.okW ml) (hlen : ml.length ≤ 1000000) (R : ByteArray)
  (hR : Ev (fun k => PNatO.bobbinref2_Text.l2 k (Num.trimW (Num.shq 1000000000 ml).1) b (Num.shq 1000000000 ml).2 0) R) : ∀ (j : Nat) (cur : List Int) (c : Int), j ≤ ml.length → cur.length = ml.length → cur.take j = ml.take j → cur.drop j = (Num.shq 1000000000 (ml.drop j)).1 → c = (Num.shq 1000000000 (ml.drop j)).2 →
   Ev (fun k => PNatO.bobbinref2_Text.l1 k cur b c ((j : Int) - 1)) R := by
 intro j
 induction j with
 | zero =>
  intro cur c hj hl ht hd hc
  have e1 : cur = (Num.shq 1000000000 ml).1 := by simpa using hd
  have e2 : c = (Num.shq 1000000000 ml).2 := by simpa using hc
  refine Ev.step (f := fun k => (PNatO.bobbinref2_trimmed.f k cur).bind fun t => PNatO.bobbinref2_Text.l2 k t b c 0) (fun k => ?_) ?_
  ·simp only [PNatO.bobbinref2_Text.l1]
   rw [if_neg (by omega)]
  ·refine Ev.bind (ev_otrim cur (by omega)) ?_
   rw [e1, e2]
   exact hR
 | succ j ih =>
  intro cur c hj hl ht hd hc
  have hr := Num.shq_rest (d := 1000000000) (by decide) (ml.drop (j + 1))
  rw [← hc] at hr
  have hx : rd cur (j : Int) = ml[j]'(by omega) := cur_get hl (by omega) ht
  have hxr := hok (ml[j]'(by omega)) (List.getElem_mem _)
  have e0 : (((j + 1 : Nat) : Int) - 1) = (j : Int) := by omega
  have hs := shq_cons_step 1000000000 ml j (by omega)
  rw [← hc] at hs
  have hq0 : 0 ≤ (c * 4294967296 + ml[j]'(by omega)) / 1000000000 := by omega
  have hq1 : (c * 4294967296 + ml[j]'(by omega)) / 1000000000 < 4294967296 := by omega
  refine Ev.step (fun k => ?_) (ih (cur.set j ((c * 4294967296 + ml[j]'(by omega)) / 1000000000)) ((c * 4294967296 + ml[j]'(by omega)) % 1000000000) (by omega) (by rw [List.length_set]; exact hl) (cur_take _ ht) ?_ ?_)
  ·simp only [PNatO.bobbinref2_Text.l1]
   rw [e0, if_pos (by omega), if_pos (by omega), if_pos (by omega), hx, or_join hr.1 hr.2 hxr.1 hxr.2, Int.tdiv_eq_ediv_of_nonneg (by omega), Int.tmod_eq_emod_of_nonneg (by omega), u64_id (by omega) (by omega), Int.emod_eq_of_lt hq0 hq1, i64_id (by omega) (by omega)]
   rfl
  ·rw [cur_drop _ (by omega), hd, hs]
  ·rw [hs]
theorem rtext_l4 (b : List Int) (hb : b.length ≤ 100000000) : ∀ (i : Nat) (acc : List Int), i ≤ b.length → acc.length + i ≤ 100000000 →
  Ev (fun k => PNatO.bobbinref2_Text.l4 k b acc ((i : Int) - 1)) (strOfNums (acc ++ (b.take i).reverse)) := by
 intro i
 induction i with
 | zero =>
  intro acc _ _
  refine Ev.step (f := fun _ => some (strOfNums (acc ++ (b.take 0).reverse))) (fun k => ?_) (Ev.now _)
  simp only [PNatO.bobbinref2_Text.l4]
  rw [if_neg (by omega)]
  simp
 | succ i ih =>
  intro acc hi ha
  have e0 : (((i + 1 : Nat) : Int) - 1) = (i : Int) := by omega
  have hg : rd b (i : Int) = b[i]'(by omega) := by simp [rd, List.getD_eq_getElem?_getD, List.getElem?_eq_getElem (show i < b.length by omega)]
  have key := ih (acc ++ [b[i]'(by omega)]) (by omega) (by simp; omega)
  rw [List.take_succ_eq_append_getElem (show i < b.length by omega), List.reverse_append]
  rw [List.append_assoc] at key
  refine Ev.step (fun k => ?_) key
  simp only [PNatO.bobbinref2_Text.l4]
  rw [e0, if_pos (by omega), if_pos (by omega), if_pos (by omega), if_pos (by omega), hg, i64_id (by omega) (by omega)]
theorem rtext_j4 (b : List Int) (hb : b.length ≤ 90000000) (n : Nat) (hn : n ≤ b.length) : Ev (fun k => PNatO.bobbinref2_Text.j4 k b (n : Int)) (strOfNums (b.take n).reverse) := by
 refine Ev.step (f := fun k => PNatO.bobbinref2_Text.l4 k b [] ((n : Int) - 1)) (fun k => ?_) ?_
 ·simp only [PNatO.bobbinref2_Text.j4]
  rw [i64_id (by omega) (by omega)]
 ·exact rtext_l4 b (by omega) n [] hn (by simp; omega)
theorem rtext_l3 (b : List Int) (hb : b.length ≤ 90000000) : ∀ n : Nat, n ≤ b.length → (∃ c ∈ b.take n, c ≠ 48) →
  Ev (fun k => PNatO.bobbinref2_Text.l3 k b (n : Int)) (strOfNums ((b.take n).reverse.dropWhile (· == 48))) := by
 intro n
 induction n with
 | zero => rintro _ ⟨c, hc, _⟩; simp at hc
 | succ j ih =>
  rintro hn ⟨c, hc, hcne⟩
  have hg : rd b (j : Int) = b[j]'(by omega) := by simp [rd, List.getD_eq_getElem?_getD, List.getElem?_eq_getElem (show j < b.length by omega)]
  rw [List.take_succ_eq_append_getElem (show j < b.length by omega)] at hc
  by_cases h48 : b[j]'(by omega) = 48
  ·have hc2 : c ∈ b.take j := by
    rcases List.mem_append.1 hc with h | h
    ·exact h
    ·simp only [List.mem_singleton] at h
     exact absurd (h.trans h48) hcne
   have hj : 0 < j := by
    rcases Nat.eq_zero_or_pos j with h | h
    ·subst h; simp at hc2
    ·exact h
   refine Ev.step (fun k => ?_) (by
    rw [List.take_succ_eq_append_getElem (show j < b.length by omega), h48, List.reverse_append]
    exact ih (by omega) ⟨c, hc2, hcne⟩)
   simp only [PNatO.bobbinref2_Text.l3]
   have e1 : wrap64 (((j + 1 : Nat) : Int) - 1) = (j : Int) := by rw [i64_id (by omega) (by omega)]; omega
   rw [if_pos (by omega), e1, if_pos (by omega), if_pos (by omega), hg, if_pos h48]
  ·have e2 : (b.take (j + 1)).reverse.dropWhile (· == 48) = (b.take (j + 1)).reverse := by
    rw [List.take_succ_eq_append_getElem (show j < b.length by omega), List.reverse_append]
    simp [h48]
   rw [e2]
   refine Ev.step (fun k => ?_) (rtext_j4 b hb (j + 1) hn)
   simp only [PNatO.bobbinref2_Text.l3]
   by_cases h1 : 0 < j
   ·have e1 : wrap64 (((j + 1 : Nat) : Int) - 1) = (j : Int) := by rw [i64_id (by omega) (by omega)]; omega
    rw [if_pos (by omega), e1, if_pos (by omega), if_pos (by omega), hg, if_neg h48]
   ·rw [if_neg (by omega)]
theorem rtext_l0 (v : Nat) : ∀ (ml b : List Int), Num.valN ml = v → Num.okW ml → Num.normed ml → ml.length ≤ 1000000 → b.length + 9 * (Num.pcs v).length ≤ 90000000 → (∃ c ∈ b ++ (Num.pcs v).flatMap rev9, c ≠ 48) →
  Ev (fun k => PNatO.bobbinref2_Text.l0 k ml b) (strOfNums ((b ++ (Num.pcs v).flatMap rev9).reverse.dropWhile (· == 48))) := by
 induction v using Nat.strongRecOn with
 | _ v ih =>
  intro ml b hv hok hn hlen hb hex
  by_cases hm : ml = []
  ·subst hm
   have hv0 : v = 0 := hv.symm
   subst hv0
   rw [Num.pcs_zero] at hex hb ⊢
   simp only [List.flatMap_nil, List.append_nil] at hex ⊢
   have key := rtext_l3 b (by simp at hb; omega) b.length (Nat.le_refl _) (by rw [List.take_length]; exact hex)
   rw [List.take_length] at key
   refine Ev.step (fun k => ?_) key
   simp only [PNatO.bobbinref2_Text.l0]
   rw [if_neg (by simp)]
  ·have hpos : 0 < v := by
    rcases Nat.eq_zero_or_pos v with h | h
    ·exact absurd (by rw [← hn]; exact (Num.valN_zero hok).1 (hv.trans h)) hm
    ·exact h
   have hlp : 0 < ml.length := List.length_pos_iff.2 hm
   obtain ⟨e1, e2⟩ := Num.shq_val (d := 1000000000) (by decide) hok
   have e3 : Num.valN (Num.trimW (Num.shq 1000000000 ml).1) = v / 1000000000 := by rw [Num.trimW_val, e1, hv]; rfl
   have e4 : (Num.shq 1000000000 ml).2 = ((v % 1000000000 : Nat) : Int) := by rw [e2, hv]; rfl
   have hr := Num.shq_rest (d := 1000000000) (by decide) ml
   rw [Num.pcs_pos hpos] at hex hb ⊢
   simp only [List.flatMap_cons, List.length_cons] at hex hb ⊢
   rw [← e4] at hex ⊢
   rw [← List.append_assoc] at hex ⊢
   have hr9 : (rev9 (Num.shq 1000000000 ml).2).length = 9 := by simp [rev9]
   have key := ih (v / 1000000000) (Nat.div_lt_self hpos (by decide)) (Num.trimW (Num.shq 1000000000 ml).1) (b ++ rev9 (Num.shq 1000000000 ml).2) e3 (Num.okW_trim (Num.shq_ok (by decide) hok)) (Num.normed_trim _)
    (by have := Num.trimW_length_le (Num.shq 1000000000 ml).1; rw [Num.shq_length] at this; omega) (by rw [List.length_append, hr9]; omega) hex
   have h2 := rtext_l2 (Num.trimW (Num.shq 1000000000 ml).1) b (Num.shq 1000000000 ml).2 hr.1 hr.2 _ (by omega) key 9 0 (by omega)
   have h2' := h2
   simp only [List.range_zero, List.map_nil, List.append_nil, Int.pow_zero, Int.ediv_one] at h2'
   have h1 := rtext_l1 ml b hok hlen _ h2' ml.length ml 0 (Nat.le_refl _) rfl rfl (by simp [Num.shq]) (by simp [Num.shq])
   refine Ev.step (fun k => ?_) h1
   simp only [PNatO.bobbinref2_Text.l0]
   rw [if_pos (by omega), i64_id (by omega) (by omega)]
theorem pcs_ne (v : Nat) (h : 0 < v) : ∃ z ∈ Num.pcs v, 0 < z ∧ z < 1000000000 := by
 induction v using Nat.strongRecOn with
 | _ v ih =>
  rw [Num.pcs_pos h]
  by_cases h1 : v % 1000000000 = 0
  ·obtain ⟨z, hz, h2⟩ := ih (v / 1000000000) (Nat.div_lt_self h (by decide)) (by omega)
   exact ⟨z, List.mem_cons_of_mem _ hz, h2⟩
  ·exact ⟨_, List.mem_cons_self, by omega⟩
theorem rev9_ne (z : Int) (h0 : 0 < z) (h1 : z < 1000000000) : ∃ c ∈ rev9 z, c ≠ 48 := by
 apply Classical.byContradiction
 intro hn
 have key : ∀ t, t < 9 → z / 10 ^ t % 10 = 0 := by
  intro t ht
  apply Classical.byContradiction
  intro h
  exact hn ⟨48 + z / 10 ^ t % 10, List.mem_map.2 ⟨t, List.mem_range.2 ht, rfl⟩, by omega⟩
 have k0 := key 0 (by decide); have k1 := key 1 (by decide); have k2 := key 2 (by decide); have k3 := key 3 (by decide); have k4 := key 4 (by decide)
 have k5 := key 5 (by decide); have k6 := key 6 (by decide); have k7 := key 7 (by decide); have k8 := key 8 (by decide)
 simp only [Int.pow_zero, Int.reducePow] at k0 k1 k2 k3 k4 k5 k6 k7 k8
 omega
theorem dropWhile_map (l : List Int) (h : ∀ z ∈ l, 0 ≤ z ∧ z < 256) : (l.dropWhile (· == 48)).map (fun z => UInt8.ofNat z.toNat) = (l.map (fun z => UInt8.ofNat z.toNat)).dropWhile (· == 48) := by
 induction l with
 | nil => rfl
 | cons z zs ih =>
  have hz := h z List.mem_cons_self
  have ih := ih (fun x hx => h x (List.mem_cons_of_mem _ hx))
  by_cases e : z = 48
  ·subst e
   simpa using ih
  ·have e2 : ¬ UInt8.ofNat z.toNat = 48 := by
    intro h2
    have := congrArg UInt8.toNat h2
    rw [UInt8.toNat_ofNat_of_lt' (by simp [UInt8.size]; omega)] at this
    have h3 : (48 : UInt8).toNat = 48 := rfl
    omega
   simp [e, e2]
theorem ev_rtext (l : List Int) (hok : Num.okW l) (hlen : l.length ≤ 1000000) : Ev (fun k => bobbinref2_Text.f k l) ⟨(Num.textN (Num.valN l)).toArray⟩ := by
 unfold bobbinref2_Text.f PNatO.bobbinref2_Text.f
 refine Ev.bind (ev_onorm l (by omega)) ?_
 by_cases h0 : Num.valN l = 0
 ·have e := (Num.valN_zero hok).1 h0
  rw [e, h0]
  exact Ev.now _
 ·have hne : Num.trimW l ≠ [] := fun h => h0 ((Num.valN_zero hok).2 h)
  have hpos : ¬ ((Num.trimW l).length : Int) = 0 := by
   have := List.length_pos_iff.2 hne
   omega
  refine Ev.congr (f := fun k => PNatO.bobbinref2_Text.l0 k (Num.trimW l) []) (fun k => by rw [if_neg hpos]) ?_
  have hpl : (Num.pcs (Num.valN l)).length ≤ 2 * l.length := Num.pcs_len _ _ (by rw [Nat.pow_mul]; exact Num.valN_lt hok)
  obtain ⟨z, hz, hz0, hz1⟩ := pcs_ne (Num.valN l) (by omega)
  obtain ⟨c, hc, hc48⟩ := rev9_ne z hz0 hz1
  have key := rtext_l0 (Num.valN l) (Num.trimW l) [] (Num.trimW_val l) (Num.okW_trim hok) (Num.normed_trim l) (by have := Num.trimW_length_le l; omega) (by simp; omega) ⟨c, by simpa using ⟨z, hz, hc⟩, hc48⟩
  have e : strOfNums (([] ++ (Num.pcs (Num.valN l)).flatMap rev9).reverse.dropWhile (· == 48)) = ⟨(Num.textN (Num.valN l)).toArray⟩ := by
   unfold strOfNums Num.textN
   rw [if_neg h0, List.nil_append, dropWhile_map _ (by
    intro y hy
    rw [List.mem_reverse] at hy
    obtain ⟨z, _, hy⟩ := List.mem_flatMap.1 hy
    obtain ⟨t, _, rfl⟩ := List.mem_map.1 hy
    have h1 := Int.emod_nonneg (z / 10 ^ t) (show (10 : Int) ≠ 0 by decide)
    have h2 := Int.emod_lt_of_pos (z / 10 ^ t) (show (0 : Int) < 10 by decide)
    omega), List.reverse_flatMap, List.map_flatMap]
   congr 3
  rw [← e]
  exact key
end Go.Proofs.YtdoeigngpemcgaaGreatDoor.Pure
namespace Go.Num
end Go.Num
namespace Go.Proofs.YtdoeigngpemcgaaGreatDoor.Pure
open Go.RowKit Go.Proofs.YtdoeigngpemcgaaGreatDoor.PNat Go.Proofs.YtdoeigngpemcgaaGreatDoorW.PrintWords Go.Proofs.YtdoeigngpemcgaaGreatDoorW.PrintLast Go.Proofs.YtdoeigngpemcgaaGreatDoorW.PrintMore
set_option linter.unusedVariables false
set_option linter.unusedSimpArgs false
end Go.Proofs.YtdoeigngpemcgaaGreatDoor.Pure
namespace Go.Proofs.YtdoeigngpemcgaaGreatDoor.natSums
open Go.ChangeShapes Go.WideShapes Go.ChangeAt Go.RowKit
open Go.ChangeMaps (open_string shut_string)
set_option linter.unusedVariables false
end Go.Proofs.YtdoeigngpemcgaaGreatDoor.natSums
namespace Go.Proofs.YtdoeigngpemcgaaGreatDoor
end Go.Proofs.YtdoeigngpemcgaaGreatDoor
