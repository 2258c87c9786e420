/- The law NatProducts answers true at every input, within its row's conditions. This is part 1 of 8: what the session's printing program wrote for the functions reached, and the session's own lemmas. -/
import Derived.ArgAppend
import Derived.Below
import Derived.BigQuiet
import Derived.Deep.AppendLies
import Derived.Deep.CutBlock
import Derived.Deep.DeepCutAuto
import Derived.Deep.Draws
import Derived.Deep.LoopGhost
import Derived.Deep.OwnRows
import Derived.Deep.QuietTactic
import Derived.Deep.RegionHeld3
import Derived.Ground.SlgnProg
import Derived.KernelRfl
import Derived.Laws.BitsAllLaws
import Derived.Laws.BitsLemmas
import Derived.Laws.BytesArg
import Derived.Laws.IdiomCopy
import Derived.Laws.MakeOwn
import Derived.Laws.OwnMore
import Derived.Laws.Rows
import Derived.Laws.Slices
import Derived.Lib.AppendStr
import Derived.Lib.ConvBytes
import Derived.Maps.AppendAt
import Derived.OrdersHeld
import Derived.OwnWalk
import Derived.RowKit
import Derived.RowKit3
import Derived.Shelf.Strings.BuilderK
import Derived.Shelf.Strings.Trim
import Derived.Tactics
import Derived.WalkKit
import Derived.WalkSpells
import Derived.WideLaws
import Derived.Test.YtkihjfpfocnneaaDoorProg
import Derived.Test.YtkihjfpfocnneaaDoorWApart
import Derived.Test.YtkihjfpfocnneaaDoorWArr
import Derived.Test.YtkihjfpfocnneaaDoorWAt
import Derived.Test.YtkihjfpfocnneaaDoorWEqStruct
import Derived.Test.YtkihjfpfocnneaaDoorWFoot
import Derived.Test.YtkihjfpfocnneaaDoorWFootNe
import Derived.Test.YtkihjfpfocnneaaDoorWFour
import Derived.Test.YtkihjfpfocnneaaDoorWGuard
import Derived.Test.YtkihjfpfocnneaaDoorWInv
import Derived.Test.YtkihjfpfocnneaaDoorWInvWords
import Derived.Test.YtkihjfpfocnneaaDoorWKept
import Derived.Test.YtkihjfpfocnneaaDoorWLast
import Derived.Test.YtkihjfpfocnneaaDoorWMore
import Derived.Test.YtkihjfpfocnneaaDoorWN
import Derived.Test.YtkihjfpfocnneaaDoorWNEv
import Derived.Test.YtkihjfpfocnneaaDoorWQPut
import Derived.Test.YtkihjfpfocnneaaDoorWRepsOne
import Derived.Test.YtkihjfpfocnneaaDoorWShare
import Derived.Test.YtkihjfpfocnneaaDoorWTab
import Derived.Test.YtkihjfpfocnneaaDoorWWords
import Derived.Test.YtkihjfpfocnneaaDoorWZeros
/- Numbers of many words, in plain lists: no program in sight. -/
namespace Go.Num

/-- the number that words write, the lowest first -/
def valN : List Int → Nat
  | [] => 0
  | x :: xs => x.toNat + 4294967296 * valN xs

/-- words: 32 binary digits each -/
def okW (l : List Int) : Prop := ∀ x ∈ l, 0 ≤ x ∧ x < 4294967296

theorem okW_nil : okW [] := fun _ h => by cases h
theorem okW_cons {x : Int} {l : List Int} : okW (x :: l) ↔ (0 ≤ x ∧ x < 4294967296) ∧ okW l := by simp [okW]
theorem okW_append {l m : List Int} : okW (l ++ m) ↔ okW l ∧ okW m := by
  constructor
  · intro h
    exact ⟨fun x hx => h x (List.mem_append_left _ hx), fun x hx => h x (List.mem_append_right _ hx)⟩
  · rintro ⟨h1, h2⟩ x hx
    rcases List.mem_append.1 hx with h | h
    · exact h1 x h
    · exact h2 x h
theorem okW_take {l : List Int} (h : okW l) (n : Nat) : okW (l.take n) := fun x hx => h x (List.mem_of_mem_take hx)
theorem okW_drop {l : List Int} (h : okW l) (n : Nat) : okW (l.drop n) := fun x hx => h x (List.mem_of_mem_drop hx)
theorem okW_get {l : List Int} (h : okW l) (i : Nat) : 0 ≤ l.getD i 0 ∧ l.getD i 0 < 4294967296 := by
  rw [List.getD_eq_getElem?_getD]
  by_cases hi : i < l.length
  · rw [List.getElem?_eq_getElem hi]
    exact h _ (List.getElem_mem hi)
  · rw [List.getElem?_eq_none (by omega)]
    simp

theorem valN_append (l m : List Int) : valN (l ++ m) = valN l + 4294967296 ^ l.length * valN m := by
  induction l with
  | nil => simp [valN]
  | cons x xs ih =>
    simp only [List.cons_append, valN, ih, List.length_cons, Nat.pow_succ, Nat.mul_add]
    rw [Nat.mul_comm (4294967296 ^ xs.length) 4294967296, Nat.mul_assoc]
    omega

theorem valN_lt {l : List Int} (h : okW l) : valN l < 4294967296 ^ l.length := by
  induction l with
  | nil => simp [valN]
  | cons x xs ih =>
    have h1 := (okW_cons.1 h).1
    have h2 := ih (okW_cons.1 h).2
    simp only [valN, List.length_cons, Nat.pow_succ]
    omega

/-- without the words 0 at the end -/
def trimW : List Int → List Int
  | [] => []
  | x :: xs => if trimW xs = [] then (if x = 0 then [] else [x]) else x :: trimW xs

theorem trimW_cons (x : Int) (xs : List Int) : trimW (x :: xs) = if trimW xs = [] then (if x = 0 then [] else [x]) else x :: trimW xs := rfl

theorem trimW_length_le (l : List Int) : (trimW l).length ≤ l.length := by
  induction l with
  | nil => simp [trimW]
  | cons x xs ih =>
    unfold trimW
    split
    · split <;> simp
    · simp only [List.length_cons]; omega

theorem trimW_val (l : List Int) : valN (trimW l) = valN l := by
  induction l with
  | nil => simp [trimW]
  | cons x xs ih =>
    unfold trimW
    split
    · rename_i h
      rw [h] at ih
      simp [valN] at ih
      split
      · rename_i h0
        simp [valN, ← ih, h0]
      · simp [valN, ← ih]
    · simp [valN, ih]

theorem trimW_take (l : List Int) : trimW l = l.take (trimW l).length := by
  induction l with
  | nil => simp [trimW]
  | cons x xs ih =>
    by_cases h : trimW xs = []
    · by_cases h0 : x = 0
      · have e : trimW (x :: xs) = [] := by unfold trimW; simp [h, h0]
        rw [e]; simp
      · have e : trimW (x :: xs) = [x] := by unfold trimW; simp [h, h0]
        rw [e]; simp
    · have e : trimW (x :: xs) = x :: trimW xs := by rw [trimW_cons, if_neg h]
      rw [e]
      simp only [List.length_cons, List.take_succ_cons]
      rw [← ih]

theorem okW_trim {l : List Int} (h : okW l) : okW (trimW l) := by rw [trimW_take]; exact okW_take h _

theorem trimW_snoc_zero (l : List Int) : trimW (l ++ [0]) = trimW l := by
  induction l with
  | nil => simp [trimW]
  | cons x xs ih => simp only [List.cons_append, trimW, ih]

theorem trimW_snoc_ne (l : List Int) {x : Int} (h : x ≠ 0) : trimW (l ++ [x]) = l ++ [x] := by
  induction l with
  | nil => simp [trimW, h]
  | cons y ys ih => simp only [List.cons_append, trimW, ih]; simp

/-- words with no 0 at the end -/
def normed (l : List Int) : Prop := trimW l = l

theorem trimW_idem (l : List Int) : trimW (trimW l) = trimW l := by
  induction l with
  | nil => simp [trimW]
  | cons x xs ih =>
    by_cases h : trimW xs = []
    · by_cases h0 : x = 0
      · have e : trimW (x :: xs) = [] := by unfold trimW; simp [h, h0]
        rw [e]; simp [trimW]
      · have e : trimW (x :: xs) = [x] := by unfold trimW; simp [h, h0]
        rw [e]; simp [trimW, h0]
    · have e : trimW (x :: xs) = x :: trimW xs := by rw [trimW_cons, if_neg h]
      rw [e]
      show (if trimW (trimW xs) = [] then _ else _) = _
      rw [ih, if_neg h]

theorem normed_trim (l : List Int) : normed (trimW l) := trimW_idem l

theorem valN_zero {l : List Int} (h : okW l) : valN l = 0 ↔ trimW l = [] := by
  induction l with
  | nil => simp [valN, trimW]
  | cons x xs ih =>
    have h1 := (okW_cons.1 h).1
    have ih := ih (okW_cons.1 h).2
    simp only [valN]
    constructor
    · intro h0
      have h2 : valN xs = 0 := by omega
      have h3 : x = 0 := by omega
      unfold trimW
      rw [if_pos (ih.1 h2), if_pos h3]
    · intro h0
      unfold trimW at h0
      by_cases h2 : trimW xs = []
      · rw [if_pos h2] at h0
        by_cases h3 : x = 0
        · rw [ih.2 h2, h3]; rfl
        · rw [if_neg h3] at h0; exact absurd h0 (by simp)
      · rw [if_neg h2] at h0; exact absurd h0 (by simp)

/-- words of one value, normed, are one -/
theorem valN_inj {l m : List Int} (hl : okW l) (hm : okW m) (nl : normed l) (nm : normed m) (h : valN l = valN m) : l = m := by
  induction l generalizing m with
  | nil =>
    have : trimW m = [] := (valN_zero hm).1 (by rw [← h]; rfl)
    rw [← nm, this]
  | cons x xs ih =>
    cases m with
    | nil =>
      have : trimW (x :: xs) = [] := (valN_zero hl).1 (by rw [h]; rfl)
      rw [← nl, this]
    | cons y ys =>
      have h1 := (okW_cons.1 hl).1
      have h2 := (okW_cons.1 hm).1
      simp only [valN] at h
      have e1 : x = y := by omega
      have e2 : valN xs = valN ys := by omega
      have cut : ∀ (z : Int) (zs : List Int), normed (z :: zs) → normed zs := by
        intro z zs hn
        unfold normed at hn ⊢
        unfold trimW at hn
        by_cases h3 : trimW zs = []
        · rw [if_pos h3] at hn
          by_cases h4 : z = 0
          · rw [if_pos h4] at hn; exact absurd hn (by simp)
          · rw [if_neg h4] at hn
            injection hn with _ hn
            rw [← hn]; rfl
        · rw [if_neg h3] at hn
          injection hn
      rw [e1, ih (okW_cons.1 hl).2 (okW_cons.1 hm).2 (cut _ _ nl) (cut _ _ nm) e2]

theorem trimW_eq_of_val {l m : List Int} (hl : okW l) (hm : okW m) (h : valN l = valN m) : trimW l = trimW m :=
  valN_inj (okW_trim hl) (okW_trim hm) (normed_trim l) (normed_trim m) (by rw [trimW_val, trimW_val, h])

/-- divided by a word, from the highest down: the quotient's words, and the rest -/
def shq (d : Int) : List Int → List Int × Int
  | [] => ([], 0)
  | x :: xs => (((shq d xs).2 * 4294967296 + x) / d :: (shq d xs).1, ((shq d xs).2 * 4294967296 + x) % d)

theorem shq_length (d : Int) (l : List Int) : (shq d l).1.length = l.length := by
  induction l with
  | nil => rfl
  | cons x xs ih => simp [shq, ih]

theorem shq_rest {d : Int} (hd : 0 < d) (l : List Int) : 0 ≤ (shq d l).2 ∧ (shq d l).2 < d := by
  cases l with
  | nil => exact ⟨Int.le_refl _, hd⟩
  | cons x xs => exact ⟨Int.emod_nonneg _ (by omega), Int.emod_lt_of_pos _ hd⟩

theorem shq_ok {d : Int} (hd : 0 < d) {l : List Int} (h : okW l) : okW (shq d l).1 := by
  induction l with
  | nil => exact okW_nil
  | cons x xs ih =>
    have h1 := (okW_cons.1 h).1
    have h2 := shq_rest hd xs
    refine okW_cons.2 ⟨⟨Int.ediv_nonneg (by omega) (by omega), ?_⟩, ih (okW_cons.1 h).2⟩
    rw [Int.ediv_lt_iff_lt_mul hd]
    have : ((shq d xs).2 + 1) * 4294967296 ≤ d * 4294967296 := Int.mul_le_mul_of_nonneg_right (by omega) (by omega)
    rw [Int.mul_comm 4294967296 d]
    omega

theorem shq_val {d : Int} (hd : 0 < d) {l : List Int} (h : okW l) : valN (shq d l).1 = valN l / d.toNat ∧ (shq d l).2 = ((valN l % d.toNat : Nat) : Int) := by
  induction l with
  | nil => simp [shq, valN]
  | cons x xs ih =>
    have h1 := (okW_cons.1 h).1
    have h2 := shq_rest hd xs
    obtain ⟨ih1, ih2⟩ := ih (okW_cons.1 h).2
    obtain ⟨D, rfl⟩ := Int.eq_ofNat_of_zero_le (Int.le_of_lt hd)
    obtain ⟨X, rfl⟩ := Int.eq_ofNat_of_zero_le h1.1
    have hD : 0 < D := by omega
    simp only [Int.toNat_natCast] at ih1 ih2 ⊢
    simp only [shq, valN, Int.toNat_natCast]
    rw [ih1, ih2]
    have e1 : ((((valN xs % D : Nat) : Int) * 4294967296 + (X : Int)) / (D : Int)).toNat = ((valN xs % D) * 4294967296 + X) / D := by
      rw [show (((valN xs % D : Nat) : Int) * 4294967296 + (X : Int)) = ((((valN xs % D) * 4294967296 + X : Nat)) : Int) by simp, ← Int.natCast_ediv, Int.toNat_natCast]
    have e3 : ((((valN xs % D : Nat) : Int) * 4294967296 + (X : Int)) % (D : Int)) = (((((valN xs % D) * 4294967296 + X) % D : Nat)) : Int) := by
      rw [show (((valN xs % D : Nat) : Int) * 4294967296 + (X : Int)) = ((((valN xs % D) * 4294967296 + X : Nat)) : Int) by simp, ← Int.natCast_emod]
    have e2 : X + 4294967296 * valN xs = (valN xs % D) * 4294967296 + X + D * (4294967296 * (valN xs / D)) := by
      have h5 : 4294967296 * valN xs = 4294967296 * (D * (valN xs / D) + valN xs % D) := by rw [Nat.div_add_mod]
      rw [h5, Nat.mul_add, ← Nat.mul_assoc, ← Nat.mul_assoc, Nat.mul_comm 4294967296 D]
      omega
    rw [e1, e3, e2]
    constructor
    · rw [Nat.add_mul_div_left _ _ hD]
    · rw [Nat.add_mul_mod_self_left]

/-- the digits of a value in base 10 to the 9, the lowest first -/
def pcs (v : Nat) : List Int := if _h : v = 0 then [] else ((v % 1000000000 : Nat) : Int) :: pcs (v / 1000000000)
termination_by v
decreasing_by exact Nat.div_lt_self (by omega) (by decide)
theorem pcs_zero : pcs 0 = [] := by rw [pcs]; simp
theorem pcs_pos {v : Nat} (h : 0 < v) : pcs v = ((v % 1000000000 : Nat) : Int) :: pcs (v / 1000000000) := by rw [pcs, dif_neg (by omega)]
/-- nine digits, noughts ahead -/
def dg9 (n : Int) : List UInt8 := (List.range 9).map fun j => UInt8.ofNat (48 + n / 10 ^ (8 - j) % 10).toNat
/-- a value as text -/
def textN (v : Nat) : List UInt8 := if v = 0 then [48] else ((pcs v).reverse.flatMap dg9).dropWhile (· == 48)
theorem pcs_range (v : Nat) : ∀ z ∈ pcs v, 0 ≤ z ∧ z < 1000000000 := by
  induction v using Nat.strongRecOn with
  | _ v ih =>
    by_cases h : v = 0
    · subst h; rw [pcs_zero]; intro z hz; cases hz
    · rw [pcs_pos (by omega)]
      intro z hz
      rcases List.mem_cons.1 hz with rfl | hz
      · omega
      · exact ih _ (Nat.div_lt_self (by omega) (by decide)) z hz

theorem pcs_len (m : Nat) : ∀ v, v < 65536 ^ m → (pcs v).length ≤ m := by
  induction m with
  | zero => intro v hv; rw [show v = 0 by simp at hv; omega, pcs_zero]; simp
  | succ m ih =>
    intro v hv
    by_cases h : v = 0
    · subst h; rw [pcs_zero]; simp
    · rw [pcs_pos (by omega)]
      have h1 : v / 1000000000 < 65536 ^ m := by
        rw [Nat.div_lt_iff_lt_mul (by decide)]
        rw [Nat.pow_succ] at hv
        refine Nat.lt_of_lt_of_le hv (Nat.mul_le_mul_left _ (by decide))
      have := ih _ h1
      simp only [List.length_cons]
      omega

/-- a number's words -/
def wordsN (v : Nat) : List Int := if _h : v = 0 then [] else ((v % 4294967296 : Nat) : Int) :: wordsN (v / 4294967296)
termination_by v
decreasing_by exact Nat.div_lt_self (by omega) (by decide)
theorem wordsN_zero : wordsN 0 = [] := by rw [wordsN]; simp
theorem wordsN_pos {v : Nat} (h : 0 < v) : wordsN v = ((v % 4294967296 : Nat) : Int) :: wordsN (v / 4294967296) := by rw [wordsN, dif_neg (by omega)]
theorem wordsN_ok (v : Nat) : okW (wordsN v) := by
  induction v using Nat.strongRecOn with
  | _ v ih =>
    by_cases h : v = 0
    · subst h; rw [wordsN_zero]; exact okW_nil
    · rw [wordsN_pos (by omega)]
      exact okW_cons.2 ⟨by omega, ih _ (Nat.div_lt_self (by omega) (by decide))⟩
theorem wordsN_val (v : Nat) : valN (wordsN v) = v := by
  induction v using Nat.strongRecOn with
  | _ v ih =>
    by_cases h : v = 0
    · subst h; rw [wordsN_zero]; rfl
    · rw [wordsN_pos (by omega)]
      simp only [valN, Int.toNat_natCast]
      rw [ih _ (Nat.div_lt_self (by omega) (by decide))]
      omega
theorem wordsN_normed (v : Nat) : normed (wordsN v) := by
  induction v using Nat.strongRecOn with
  | _ v ih =>
    by_cases h : v = 0
    · subst h; rw [wordsN_zero]; rfl
    · rw [wordsN_pos (by omega)]
      have ih := ih _ (Nat.div_lt_self (show 0 < v by omega) (show 1 < 4294967296 by decide))
      unfold normed at ih ⊢
      rw [trimW_cons]
      by_cases h2 : trimW (wordsN (v / 4294967296)) = []
      · rw [if_pos h2]
        have h3 := (valN_zero (wordsN_ok _)).2 h2
        rw [wordsN_val] at h3
        rw [if_neg (by omega), ← ih, h2]
      · rw [if_neg h2, ih]
theorem trim_words {l : List Int} (h : okW l) : trimW l = wordsN (valN l) :=
  valN_inj (okW_trim h) (wordsN_ok _) (normed_trim l) (wordsN_normed _) (by rw [trimW_val, wordsN_val])
theorem trim_wordsN (v : Nat) : trimW (wordsN v) = wordsN v := wordsN_normed v

/-- decimal digits behind a value -/
def decL : Nat → List UInt8 → Nat
  | a, [] => a
  | a, c :: cs => decL (a * 10 + (c.toNat - 48)) cs
theorem decL_append (a : Nat) (l m : List UInt8) : decL a (l ++ m) = decL (decL a l) m := by
  induction l generalizing a with
  | nil => rfl
  | cons c cs ih => exact ih _
theorem decL_acc (a : Nat) (l : List UInt8) : decL a l = a * 10 ^ l.length + decL 0 l := by
  induction l generalizing a with
  | nil => show a = a * 10 ^ 0 + 0; omega
  | cons c cs ih =>
    obtain ⟨d, hd⟩ : ∃ d, d = c.toNat - 48 := ⟨_, rfl⟩
    show decL (a * 10 + (c.toNat - 48)) cs = a * 10 ^ (cs.length + 1) + decL (0 * 10 + (c.toNat - 48)) cs
    rw [← hd, ih (a * 10 + d), ih (0 * 10 + d), Nat.pow_succ]
    generalize decL 0 cs = e
    generalize 10 ^ cs.length = p
    rw [Nat.add_mul, Nat.zero_mul, Nat.zero_add, Nat.mul_assoc, Nat.mul_comm 10 p, Nat.add_assoc]
theorem decL_lt (l : List UInt8) (h : ∀ c ∈ l, 48 ≤ c.toNat ∧ c.toNat ≤ 57) : decL 0 l < 10 ^ l.length := by
  have key : ∀ (l : List UInt8) (a : Nat), (∀ c ∈ l, 48 ≤ c.toNat ∧ c.toNat ≤ 57) → decL a l < (a + 1) * 10 ^ l.length := by
    intro l
    induction l with
    | nil => intro a _; show a < (a + 1) * 10 ^ 0; omega
    | cons c cs ih =>
      intro a hc
      have h1 := hc c List.mem_cons_self
      obtain ⟨d, hd⟩ : ∃ d, d = c.toNat - 48 := ⟨_, rfl⟩
      have h2 := ih (a * 10 + d) (fun x hx => hc x (List.mem_cons_of_mem _ hx))
      show decL (a * 10 + (c.toNat - 48)) cs < (a + 1) * 10 ^ (cs.length + 1)
      rw [← hd]
      refine Nat.lt_of_lt_of_le h2 ?_
      rw [Nat.pow_succ]
      generalize 10 ^ cs.length = p
      rw [Nat.mul_comm p 10, ← Nat.mul_assoc]
      exact Nat.mul_le_mul_right _ (by omega)
  have := key l 0 h
  simpa using this
/-- are all signs digits? -/
def digs (l : List UInt8) : Bool := l.all fun c => decide (48 ≤ c.toNat) && decide (c.toNat ≤ 57)
theorem digs_mem {l : List UInt8} (h : digs l = true) : ∀ c ∈ l, 48 ≤ c.toNat ∧ c.toNat ≤ 57 := fun c hc => by
  have := List.all_eq_true.1 h c hc
  simpa using this

end Go.Num

namespace Go.Proofs.YtkihjfpfocnneaaDoor.PNat
open Go.RowKit Go.Proofs.YtkihjfpfocnneaaDoorW.PrintWords Go.Proofs.YtkihjfpfocnneaaDoorW.PrintLast Go.Proofs.YtkihjfpfocnneaaDoorW.PrintMore
attribute [local go_sem] max2_int min2_int max_two min_two max_three min_three max_four min_four   -- for this text's walks alone
set_option linter.unusedVariables false
set_option linter.unusedSimpArgs false



def errW : Option Int → Value
  | none => .nilIface
  | some c => .iface 0 (.int .i64 c)
theorem errW_none : errW none = .nilIface := rfl
theorem errW_some (c : Int) : errW (some c) = .iface 0 (.int .i64 c) := rfl

theorem info38 : (Tryd.prog.info? 38).map (fun i => (i.zero, i.size, i.bytes)) = some (some (.int .u32 0), 1, 4) := by kernel_rfl
-- the values' own types

theorem ow_C_len {α : Type} {d : Kd α} {w : World} {A : Option Addr} {n m : Nat} {xs : List α} (h : n = m) (hc : d.C w A n xs) : d.C w A m xs := h ▸ hc
theorem ow_V_at {α : Type} {d : Kd α} {e : Nat} {w w' : World} {base m : Nat} {ok : Nat → Prop} {v : Value} {xs : List α} (hq : w.drewN m = w') (h : Kd.V d e w base ok v xs) : Kd.V d e w' base ok v xs := by subst hq; exact Kd.V_drewN h m

end Go.Proofs.YtkihjfpfocnneaaDoor.PNat

namespace Go.Proofs.YtkihjfpfocnneaaDoor.PNat
open Go.RowKit Go.Proofs.YtkihjfpfocnneaaDoorW.PrintWords Go.Proofs.YtkihjfpfocnneaaDoorW.PrintLast Go.Proofs.YtkihjfpfocnneaaDoorW.PrintMore
attribute [local go_sem] max2_int min2_int max_two min_two max_three min_three max_four min_four   -- for this text's walks alone
set_option linter.unusedVariables false
set_option linter.unusedSimpArgs false

/-! ### bobbinlaw2_lent: function 15 -/
def bobbinlaw2_lent.f (l0 : List Int) : Option (List Int) := if ([] : List Int).length + l0.length < 35184372088832 then ((some (([] : List Int) ++ l0 : List Int)).bind fun y181 => (if y181.length < 35184372088832 then ((some (y181 ++ [77] : List Int)).bind fun y184 => (if 0 ≤ (l0.length : Int) then (if (l0.length : Int) ≤ (y184.length : Int) then (some (y184.take ((l0.length : Int) : Int).toNat)) else (none)) else (none))) else (none))) else (none)
set_option maxHeartbeats 8000000 in
set_option maxRecDepth 100000 in
theorem bobbinlaw2_lent.calls (A0 : Option Addr) (c0 : Nat) (l0 : List Int) (r : List Int) (w : World) (hr0 : Kd.C (Kd.int .u32) w A0 l0.length l0) (hc0 : l0.length ≤ c0) (h : bobbinlaw2_lent.f l0 = some r) :
    Calls Tryd.prog 15 #[.slice A0 l0.length c0] w fun e w' => ∃ v0_ : Value, e = .returned (v0_) ∧ Kd.R (Kd.int .u32) 38 w' w.heap.size (fun _ => True) v0_ r ∧ Below w.heap.size w w' := by
  have HR0 := Aside0.mk hr0
  have HC0 := Aside0.mk hc0
  clear hr0 hc0
  have HB := Aside0.mk (Below.refl w.heap.size w)
  have H : (if ([] : List Int).length + l0.length < 35184372088832 then ((some (([] : List Int) ++ l0 : List Int)).bind fun y181 => (if y181.length < 35184372088832 then ((some (y181 ++ [77] : List Int)).bind fun y184 => (if 0 ≤ (l0.length : Int) then (if (l0.length : Int) ≤ (y184.length : Int) then (some (y184.take ((l0.length : Int) : Int).toNat)) else (none)) else (none))) else (none))) else (none)) = some r := h
  clear h
  by_cases c2 : ([] : List Int).length + l0.length < 35184372088832
  · rw [if_pos c2] at H
    have LMc2 := Aside0.mk c2
    clear c2
    obtain ⟨y181, hy181⟩ : ∃ y_ : List Int, y_ = (([] : List Int) ++ l0) := ⟨_, rfl⟩
    replace H : (if y181.length < 35184372088832 then ((some (y181 ++ [77] : List Int)).bind fun y184 => (if 0 ≤ (l0.length : Int) then (if (l0.length : Int) ≤ (y184.length : Int) then (some (y184.take ((l0.length : Int) : Int).toNat)) else (none)) else (none))) else (none)) = some r := by first | (rw [hy181]; with_reducible exact H) | (have H2_ := (Option.bind_some _ _).symm.trans H; rw [hy181]; with_reducible exact H2_) | (have H2_ := (Option.bind_some _ _).symm.trans H; with_reducible exact H2_) | with_reducible exact H | (rw [hy181]; exact H) | exact H
    have Ny181 := Aside0.mk hy181
    clear hy181
    by_cases c3 : y181.length < 35184372088832
    · rw [if_pos c3] at H
      have LMc3 := Aside0.mk c3
      clear c3
      obtain ⟨y184, hy184⟩ : ∃ y_ : List Int, y_ = (y181 ++ [77]) := ⟨_, rfl⟩
      replace H : (if 0 ≤ (l0.length : Int) then (if (l0.length : Int) ≤ (y184.length : Int) then (some (y184.take ((l0.length : Int) : Int).toNat)) else (none)) else (none)) = some r := by first | (rw [hy184]; with_reducible exact H) | (have H2_ := (Option.bind_some _ _).symm.trans H; rw [hy184]; with_reducible exact H2_) | (have H2_ := (Option.bind_some _ _).symm.trans H; with_reducible exact H2_) | with_reducible exact H | (rw [hy184]; exact H) | exact H
      have Ny184 := Aside0.mk hy184
      clear hy184
      by_cases c4 : 0 ≤ (l0.length : Int)
      · rw [if_pos c4] at H
        have c4b0 := eq_true c4
        have c4b1 : decide (0 ≤ (l0.length : Int)) = true := decide_eq_true c4
        clear c4
        by_cases c5 : (l0.length : Int) ≤ (y184.length : Int)
        · rw [if_pos c5] at H
          have c5b0 := eq_true c5
          have c5b1 : decide ((l0.length : Int) ≤ (y184.length : Int)) = true := decide_eq_true c5
          clear c5
          obtain ⟨y187, hy187⟩ : ∃ y_ : List Int, y_ = (y184.take ((l0.length : Int) : Int).toNat) := ⟨_, rfl⟩
          replace H : (some y187) = some r := by first | (rw [hy187]; with_reducible exact H) | (have H2_ := (Option.bind_some _ _).symm.trans H; rw [hy187]; with_reducible exact H2_) | (have H2_ := (Option.bind_some _ _).symm.trans H; with_reducible exact H2_) | with_reducible exact H | (rw [hy187]; exact H) | exact H
          have Ny187 := Aside0.mk hy187
          clear hy187
          obtain rfl := Option.some.inj H
          go_enter Tryd.func15, Tryd.ntmps15
          go_wp2_with (first | ((with_reducible refine gate_builtin (b := .append) (xs := #[.tmp 4, .tmp 5]) rfl ?_); at_builtin; refine Kd.R_append_rows (Kd.int .u32) (w0 := w) w.heap.size rfl (.tmp 4) (.tmp 5) 23 38 (.int .u32 0) 4 rfl Tryd.underlying23 info38 rfl (by decide) (by omega) (.slice none 0 0) ([] : List Int) l0 _ _ _ (fun _ => True) (fun _ => False) rfl rfl ?aO ?aR (fun _ _ h => h) (fun _ h => h.elim) ?aF ?aB ?aS ?aL ?_; (case aR => repeat (first | exact HR0.out | (with_reducible refine Kd.C_alloc ?_ _) | (with_reducible refine Kd.C_drewN ?_ _) | (with_reducible refine Kd.C_drew ?_))); (case aB => exact (by repeat (first | (with_reducible first | exact HB.out | apply below_alloc | apply pw_below_drewN | apply below_drew1) | exact HB.out))); (case aF => exact (fun _ _ => trivial)); (case aO => exact ((Kd.R_nil _ _ _ _ (fun _ => True)))); (case aS => exact (below_size (by repeat (first | (with_reducible first | exact HB.out | apply below_alloc | apply pw_below_drewN | apply below_drew1) | exact HB.out)))); (case aL => have := LMc2.out; omega); intro v182 w6 ho hb hg hat; rw [← Ny181.out] at ho; have n0_ := Aside0.mk (hb); have n1_ := Aside0.mk (ho); clear HB; have HB := n0_; have HO183 := n1_; clear n0_ n1_; clear ho hb hg hat) | ((with_reducible refine gate_builtin (b := .append) (xs := #[.tmp 7, .tmp 8]) rfl ?_); at_builtin; refine Kd.R_append (Kd.int .u32) (w0 := w) w.heap.size rfl (.tmp 7) (.tmp 8) 23 38 (.int .u32 0) 4 rfl Tryd.underlying23 info38 rfl (by decide) (by omega) v182 y181 77 [.int .u32 77] (fun _ => True) (fun _ => False) rfl rfl ?aP (fun _ hk => hk.elim) ?aF ?aO ?aB ?aS ?aL ?_; (case aP => exact rfl); (case aB => exact (by repeat (first | (with_reducible first | exact HB.out | apply below_alloc | apply pw_below_drewN | apply below_drew1) | exact HB.out))); (case aF => exact (fun _ _ => trivial)); (case aO => exact (by (with_reducible repeat (first | apply Kd.R_alloc | apply Kd.R_drewN | apply Kd.R_drew)); exact HO183.out)); (case aS => exact (below_size (by repeat (first | (with_reducible first | exact HB.out | apply below_alloc | apply pw_below_drewN | apply below_drew1) | exact HB.out)))); (case aL => have := LMc3.out; omega); intro v185 w7 ho hb hg hat; rw [← Ny184.out] at ho; have n0_ := Aside0.mk (hb); have n1_ := Aside0.mk (ho); clear HB; clear HO183; have HB := n0_; have HO186 := n1_; clear n0_ n1_; clear ho hb hg hat; obtain ⟨Ao8, co8, eo8⟩ := Kd.R_slice HO186.out; subst eo8; have q9 : ((l0.length : Int) : Int) ≤ ((y184.length : Int) : Int) := of_decide_eq_true (by first | (with_reducible assumption) | assumption); obtain ⟨i09, hi09, _, hsz9, _⟩ := info_parts info38; have hcut9 := cut_to (P := Tryd.prog) 23 38 .i64 Tryd.underlying23 hi09 Ao8 y184.length co8 (l0.length : Int) (of_decide_eq_true (by first | (with_reducible assumption) | assumption)) q9 (Kd.R_reads' HO186.out).2.1; have hr9 := Kd.R_take (m := ((l0.length : Int) : Int).toNat) HO186.out (by omega); have hy9 : y187.length = ((l0.length : Int) : Int).toNat := (by rw [Ny187.out, List.length_take]; omega); rw [← Ny187.out] at hr9; rw [← hy9] at hr9 hcut9; clear hy9 hi09 hsz9 HO186; have HO189 := Aside0.mk hr9; clear hr9; replace q9 := eq_true q9))
          go_ret
          exact ⟨_, by first | rfl | (simp [errW_none, errW_some] <;> rfl) | (simp [*, errW_none, errW_some] <;> rfl), by (with_reducible repeat (first | apply Kd.R_alloc | apply Kd.R_drewN | apply Kd.R_drew)); exact HO189.out, by repeat (first | (with_reducible first | exact HB.out | apply below_alloc | apply pw_below_drewN | apply below_drew1) | exact HB.out)⟩
        · rw [if_neg c5] at H
          exact absurd H (by simp)
      · rw [if_neg c4] at H
        exact absurd H (by simp)
    · rw [if_neg c3] at H
      exact absurd H (by simp)
  · rw [if_neg c2] at H
    exact absurd H (by simp)

end Go.Proofs.YtkihjfpfocnneaaDoor.PNat

namespace Go.Proofs.YtkihjfpfocnneaaDoor.PNat
open Go.RowKit Go.Proofs.YtkihjfpfocnneaaDoorW.PrintWords Go.Proofs.YtkihjfpfocnneaaDoorW.PrintLast Go.Proofs.YtkihjfpfocnneaaDoorW.PrintMore
attribute [local go_sem] max2_int min2_int max_two min_two max_three min_three max_four min_four   -- for this text's walks alone
set_option linter.unusedVariables false
set_option linter.unusedSimpArgs false

/-! ### nat_more: function 32 -/
/-- the words times b, from carry c on: the words, and the carry that is left -/
def nat_more.go (b : Int) : List Int → Int → List Int × Int
  | [], c => ([], c)
  | x :: xs, c => ((IntKind.u64.wrap (c + IntKind.u64.wrap (IntKind.u64.wrap x * IntKind.u64.wrap b))) % 4294967296 :: (nat_more.go b xs ((IntKind.u64.wrap (c + IntKind.u64.wrap (IntKind.u64.wrap x * IntKind.u64.wrap b))) / 4294967296)).1, (nat_more.go b xs ((IntKind.u64.wrap (c + IntKind.u64.wrap (IntKind.u64.wrap x * IntKind.u64.wrap b))) / 4294967296)).2)
theorem nat_more.step (b c : Int) (cur : List Int) (k : Nat) (hk : k < cur.length) :
    (cur.take k ++ (nat_more.go b (cur.drop k) c).1, (nat_more.go b (cur.drop k) c).2) =
      ((cur.set k (IntKind.u64.wrap (c + IntKind.u64.wrap (IntKind.u64.wrap (rd cur k) * IntKind.u64.wrap b)) % 4294967296)).take (k + 1) ++ (nat_more.go b ((cur.set k (IntKind.u64.wrap (c + IntKind.u64.wrap (IntKind.u64.wrap (rd cur k) * IntKind.u64.wrap b)) % 4294967296)).drop (k + 1)) (IntKind.u64.wrap (c + IntKind.u64.wrap (IntKind.u64.wrap (rd cur k) * IntKind.u64.wrap b)) / 4294967296)).1,
       (nat_more.go b ((cur.set k (IntKind.u64.wrap (c + IntKind.u64.wrap (IntKind.u64.wrap (rd cur k) * IntKind.u64.wrap b)) % 4294967296)).drop (k + 1)) (IntKind.u64.wrap (c + IntKind.u64.wrap (IntKind.u64.wrap (rd cur k) * IntKind.u64.wrap b)) / 4294967296)).2) := by
  have hr : rd cur k = cur[k] := by simp [rd, hk]
  rw [hr, List.drop_set_of_lt (by omega), List.drop_eq_getElem_cons hk, List.take_succ_eq_append_getElem (by simpa using hk)]
  rw [List.take_set_of_le (Nat.le_refl _)]
  simp [nat_more.go]
def nat_more.f (l0 : List Int) (a1 a2 : Int) : Option (List Int) :=
  if l0.length < 35184372088830 then some (if 0 < (nat_more.go a1 l0 (IntKind.u64.wrap a2)).2 then (nat_more.go a1 l0 (IntKind.u64.wrap a2)).1 ++ [(nat_more.go a1 l0 (IntKind.u64.wrap a2)).2 % 4294967296] else (nat_more.go a1 l0 (IntKind.u64.wrap a2)).1) else none
set_option maxRecDepth 100000 in
set_option maxHeartbeats 4000000 in
theorem nat_more.calls (P0_ : Nat → Prop) (u9000_ : Value) (l0 : List Int) (a1 a2 : Int) (r : List Int) (w0 w : World) (hB : Below w0.heap.size w0 w) (ho0 : Kd.R (Kd.int .u32) 38 w w0.heap.size P0_ u9000_ l0) (h : nat_more.f l0 a1 a2 = some r) :
    Calls Tryd.prog 32 #[u9000_, .int .u32 a1, .int .u32 a2] w fun e w' => ∃ v0_ : Value, e = .returned (v0_) ∧ Kd.R (Kd.int .u32) 38 w' w0.heap.size (fun k_ => (P0_ k_ ∨ w.heap.size ≤ k_)) v0_ r ∧ Below w0.heap.size w0 w' ∧ Kept w w' (fun k_ => P0_ k_) := by
  unfold nat_more.f at h
  by_cases hl : l0.length < 35184372088830
  · rw [if_pos hl] at h
    have H := Aside0.mk (Option.some.inj h)
    have HL := Aside0.mk hl
    clear h hl
    have HO0 := Aside0.mk (show Kd.R (Kd.int .u32) 38 w w0.heap.size (fun k_ => (P0_ k_ ∨ w.heap.size ≤ k_)) u9000_ l0 from Kd.R_mono ho0 (fun k_ hk => (.inl hk)))
    obtain ⟨A0, c0, e0⟩ := Kd.R_slice ho0
    subst e0
    clear ho0
    have HK := Aside0.mk (Kept.refl w (fun k_ => P0_ k_))
    have HW0 := Aside0.mk hB.size
    have HB := Aside0.mk hB
    clear hB
    go_enter Tryd.func32, Tryd.ntmps32
    go_wp2
    go_loopg [7, 14] l0.length (fun kq v7 v14 w' => ∃ (k : Nat) (c : Int) (cur : List Int), v7 = .int .u64 c ∧ v14 = .int .i64 k ∧ Aside0 (k + kq = l0.length) ∧ Aside0 (cur.length = l0.length) ∧ Aside0 (nat_more.go a1 l0 (IntKind.u64.wrap a2) = (cur.take k ++ (nat_more.go a1 (cur.drop k) c).1, (nat_more.go a1 (cur.drop k) c).2)) ∧ Aside0 (Kd.R (Kd.int .u32) 38 w' w0.heap.size (fun k_ => (P0_ k_ ∨ w.heap.size ≤ k_)) (.slice A0 l0.length c0) cur) ∧ Aside0 (Kept w w' (fun k_ => P0_ k_)) ∧ Aside0 (Below w0.heap.size w0 w'))
    case atStart => exact ⟨0, IntKind.u64.wrap a2, l0, rfl, rfl, ⟨by omega⟩, ⟨rfl⟩, ⟨by simp⟩, HO0, HK, HB⟩
    case round =>
      clear HO0 HK HB
      obtain ⟨k, c, cur, rfl, rfl, HKQ, HCL, HG, HO, HK, HB⟩ := hrel
      by_cases hlt : k < l0.length
      · obtain ⟨m, rfl⟩ : ∃ m, gk = m + 1 := ⟨gk - 1, by have := HKQ.out; omega⟩
        obtain ⟨g, cap, eg, gb, gl, cl, HGB⟩ := Kd.R_form HO.out (by have := HCL.out; omega)
        rw [HCL.out] at eg
        injection eg with e1 e2 e3
        subst e1; subst e3
        clear e2
        have GB := Aside0.mk gb
        have HMg := Aside0.mk (show (P0_ g ∨ w.heap.size ≤ g) from (HO.out.1 _ rfl))
        clear gb gl HGB
        have hlt0 : decide ((k : Int) < (l0.length : Int)) = true := decide_eq_true (by omega)
        have hlt1 : decide (k < l0.length) = true := decide_eq_true hlt
        obtain ⟨hx, hf⟩ := Kd.R_celln 0 HO.out (k : Int) (by omega) (by omega)
        rw [Int.toNat_natCast] at hx hf
        obtain ⟨x, ex⟩ : ∃ x, x = rdOf 0 cur (k : Int) := ⟨_, rfl⟩
        rw [← ex] at hx
        have EX := Aside0.mk (show rd cur k = x from ex.symm)
        clear ex
        have HS := Aside0.mk (nat_more.step a1 c cur k (by have := HCL.out; omega))
        rw [EX.out] at HS
        obtain ⟨t, et⟩ : ∃ t, IntKind.u64.wrap (c + IntKind.u64.wrap (IntKind.u64.wrap x * IntKind.u64.wrap a1)) = t := ⟨_, rfl⟩
        rw [et] at HS
        have ET := Aside0.mk et
        clear et
        have HP := Aside0.mk (Kd.R_putg HO.out (k : Int) (t % 4294967296))
        rw [Int.toNat_natCast] at HP
        go_wp2
        all_goals
          go_roundg m
          case measure => have := HKQ.out; omega
          case rel => exact ⟨k + 1, t / 4294967296, cur.set k (t % 4294967296), by rw [ET.out], by rw [show wrap64 ((k : Int) + 1) = ((k + 1 : Nat) : Int) from by unfold wrap64; have := HL.out; omega], ⟨by have := HKQ.out; omega⟩, ⟨by rw [List.length_set]; exact HCL.out⟩, ⟨by rw [HG.out, HS.out]⟩, ⟨by rw [ET.out]; exact HP.out.1⟩, ⟨by rw [ET.out]; exact Kept.of_grown HP.out.2 HK.out (fun k_ e_ => by injection e_ with e_; subst e_; exact HMg.out)⟩, ⟨below_set HB.out GB.out⟩⟩
      · obtain rfl : gk = 0 := by have := HKQ.out; omega
        have hlt0 : decide ((k : Int) < (l0.length : Int)) = false := decide_eq_false (by omega)
        have hlt1 : decide (k < l0.length) = false := decide_eq_false hlt
        have HF : Aside0 (nat_more.go a1 l0 (IntKind.u64.wrap a2) = (cur, c)) := ⟨by rw [HG.out, List.take_of_length_le (by have := HCL.out; omega), List.drop_of_length_le (by have := HCL.out; omega)]; simp [nat_more.go]⟩
        have HR : Aside0 ((if 0 < c then cur ++ [c % 4294967296] else cur) = r) := ⟨by have h_ := H.out; rw [HF.out] at h_; exact h_⟩
        clear HG H HF
        by_cases hc : 0 < c
        · have hc0 : decide (0 < c) = true := decide_eq_true hc
          have HR2 : Aside0 (r = cur ++ [c % 4294967296]) := ⟨by rw [← HR.out, if_pos hc]⟩
          clear HR
          go_wp2_with (first | ((with_reducible refine gate_builtin (b := .append) (xs := #[.tmp 36, .tmp 39]) rfl ?_); at_builtin; refine Kd.R_append (Kd.int .u32) (w0 := w0) w0.heap.size rfl (.tmp 36) (.tmp 39) 23 38 (.int .u32 0) 4 rfl Tryd.underlying23 info38 rfl (by decide) (by omega) (.slice A0 l0.length c0) cur (c % 4294967296) [.int .u32 (c % 4294967296)] (fun k_ => (P0_ k_ ∨ w.heap.size ≤ k_)) (fun _ => False) rfl rfl ?aP (fun _ hk => hk.elim) ?aF HO.out HB.out ?aS ?aL ?_; (case aP => exact rfl); (case aF => exact fun _ h_ => .inr (Nat.le_trans HK.out.1 h_)); (case aS => exact HB.out.size); (case aL => have h1_ := HL.out; have h2_ := HCL.out; omega); intro v1 w1 ho hb hg hat; have n0_ := Aside0.mk ho; have n1_ := Aside0.mk hb; have n2_ := Aside0.mk (Kept.of_grown (S := (fun k_ => P0_ k_)) hg HK.out (fun k_ e_ => (HO.out.1 k_ e_))); clear ho hb hg hat))
          go_ret
          exact ⟨_, rfl, by rw [HR2.out]; exact n0_.out, n1_.out, n2_.out⟩
        · have hc0 : decide (0 < c) = false := decide_eq_false hc
          have HR2 : Aside0 (r = cur) := ⟨by rw [← HR.out, if_neg hc]⟩
          clear HR
          go_wp2
          go_ret
          exact ⟨_, rfl, by rw [HR2.out]; exact HO.out, HB.out, HK.out⟩
  · rw [if_neg hl] at h
    exact absurd h (by simp)

end Go.Proofs.YtkihjfpfocnneaaDoor.PNat

namespace Go.Proofs.YtkihjfpfocnneaaDoor.PNat
open Go.RowKit Go.Proofs.YtkihjfpfocnneaaDoorW.PrintWords Go.Proofs.YtkihjfpfocnneaaDoorW.PrintLast Go.Proofs.YtkihjfpfocnneaaDoorW.PrintMore
attribute [local go_sem] max2_int min2_int max_two min_two max_three min_three max_four min_four   -- for this text's walks alone
set_option linter.unusedVariables false
set_option linter.unusedSimpArgs false

/-! ### nat_trim: function 35 -/
def nat_trim.l0 : Nat → List Int → Option (List Int)
  | 0, _ => none
  | k + 1, x0 => if (x0.length : Int) > 0 then (if 0 ≤ (wrap64 ((x0.length : Int) - 1)) then (if (wrap64 ((x0.length : Int) - 1)) < (x0.length : Int) then (if (rd x0 (wrap64 ((x0.length : Int) - 1))) = 0 then (if (wrap64 ((x0.length : Int) - 1)) ≤ (x0.length : Int) then (nat_trim.l0 k (x0.take ((wrap64 ((x0.length : Int) - 1)) : Int).toNat)) else (none)) else (some x0)) else (none)) else (none)) else (some x0)
def nat_trim.f (k : Nat) (l0 : List Int) : Option (List Int) := nat_trim.l0 k l0
theorem nat_trim.mono_l : ∀ k, (∀ y0, LeO (nat_trim.l0 k y0) (nat_trim.l0 (k + 1) y0))
  | 0 => fun _ r h => by simp [nat_trim.l0] at h
  | k + 1 => by
    have ih0 := nat_trim.mono_l k
    · intro y0
      unfold nat_trim.l0
      repeat' first
      | (with_reducible exact ih0 _)
      | (with_reducible exact LeO.refl _)
      | (with_reducible exact LeO.none _)
      | (with_reducible refine LeO.ite ?_ ?_)
      | (with_reducible refine LeO.bind ?_ (fun _ => ?_))
      | exact ih0 _
      | exact LeO.none _
      | refine LeO.ite ?_ ?_
      | refine LeO.bind ?_ (fun _ => ?_)
theorem nat_trim.mono : ∀ a0 k, LeO (nat_trim.f k a0) (nat_trim.f (k + 1) a0) := by
  intro a0 k
  have ih0 := nat_trim.mono_l k
  unfold nat_trim.f
  repeat' first
      | (with_reducible exact ih0 _)
      | (with_reducible exact LeO.refl _)
      | (with_reducible exact LeO.none _)
      | (with_reducible refine LeO.ite ?_ ?_)
      | (with_reducible refine LeO.bind ?_ (fun _ => ?_))
      | exact ih0 _
      | exact LeO.none _
      | refine LeO.ite ?_ ?_
      | refine LeO.bind ?_ (fun _ => ?_)
set_option maxHeartbeats 8000000 in
set_option maxRecDepth 100000 in
theorem nat_trim.calls (k : Nat) (P0_ : Nat → Prop) (A0 : Option Addr) (c0 : Nat) (l0 : List Int) (r : List Int) (w : World) (hs0 : Kd.V (Kd.int .u32) 38 w w.heap.size (fun k_ => P0_ k_) (.slice A0 l0.length c0) l0) (h : nat_trim.f k l0 = some r) :
    Calls Tryd.prog 35 #[.slice A0 l0.length c0] w fun e w' => ∃ v0_ : Value, e = .returned (v0_) ∧ Kd.V (Kd.int .u32) 38 w' w.heap.size (fun k_ => (P0_ k_ ∨ w.heap.size ≤ k_)) v0_ r ∧ Below w.heap.size w w' := by
  have HO0 := Aside0.mk (show Kd.V (Kd.int .u32) 38 w w.heap.size (fun k_ => (P0_ k_ ∨ w.heap.size ≤ k_)) (.slice A0 l0.length c0) l0 from Kd.V_mono hs0 (fun k_ hk => .inl hk))
  have HB := Aside0.mk (Below.refl w.heap.size w)
  have H : (nat_trim.l0 k l0) = some r := h
  clear h
  have H' := Aside0.mk H
  clear H
  go_enter Tryd.func35, Tryd.ntmps35
  go_wp2
  go_loopg [0] k (fun kq v0 w' => ∃ (x0_1 : List Int), Aside0 (nat_trim.l0 kq x0_1 = some r) ∧ Aside0 (kq ≤ k) ∧ Aside0 (Kd.V (Kd.int .u32) 38 w' w.heap.size (fun k_ => (P0_ k_ ∨ w.heap.size ≤ k_)) v0 x0_1) ∧ Aside0 (Below w.heap.size w w'))
  case atStart => exact ⟨(l0), H', ⟨Nat.le_refl _⟩, ⟨by (with_reducible repeat (first | apply Kd.V_alloc | apply Kd.V_drewN | apply Kd.V_drew)); exact HO0.out⟩, ⟨by repeat (first | (with_reducible first | exact HB.out | apply below_alloc | apply pw_below_drewN | apply below_drew1) | exact HB.out)⟩⟩
  case round =>
    clear H'
    obtain ⟨x0_1, HA, HK1, HO_0, HB⟩ := hrel
    cases gk with
    | zero => exact absurd HA.out (by simp [nat_trim.l0])
    | succ k1 =>
      have H := HA.out
      clear HA
      simp only [nat_trim.l0] at H
      by_cases c2 : (x0_1.length : Int) > 0
      · rw [if_pos c2] at H
        have c2b0 : decide (0 < (x0_1.length : Int)) = true := decide_eq_true c2
        have c2b1 : decide (0 < x0_1.length) = true := decide_eq_true (by omega)
        clear c2
        obtain ⟨ji3, hji3⟩ : ∃ j_ : Int, (wrap64 ((x0_1.length : Int) - 1)) = j_ := ⟨_, rfl⟩
        replace H : (if 0 ≤ (ji3) then (if (ji3) < (x0_1.length : Int) then (if (rd x0_1 (ji3)) = 0 then (if (ji3) ≤ (x0_1.length : Int) then (nat_trim.l0 k1 (x0_1.take ((ji3) : Int).toNat)) else (none)) else (some x0_1)) else (none)) else (none)) = some r := by first | (rw [hji3] at H; exact H) | (simp only [hji3] at H ⊢; exact H)
        have hji3w : (IntKind.i64.wrap ((x0_1.length : Int) - 1)) = ji3 := (i64_w _).trans hji3
        by_cases c4 : 0 ≤ (ji3)
        · rw [if_pos c4] at H
          have c4b0 : decide (0 ≤ (ji3)) = true := decide_eq_true c4
          clear c4
          by_cases c5 : (ji3) < (x0_1.length : Int)
          · rw [if_pos c5] at H
            have c5b0 : decide ((ji3) < (x0_1.length : Int)) = true := decide_eq_true c5
            clear c5
            by_cases c6 : (rd x0_1 (ji3)) = 0
            · rw [if_pos c6] at H
              have c6b0 : ((rd x0_1 (ji3)) == 0) = true := beq_iff_eq.mpr c6
              have c6b1 : ((rd x0_1 (ji3)) != 0) = false := bne_eq_false_iff_eq.mpr c6
              clear c6
              have c7b0 := eq_true (of_decide_eq_true (by first | (with_reducible assumption) | assumption) : 0 ≤ (ji3))
              by_cases c8 : (ji3) ≤ (x0_1.length : Int)
              · rw [if_pos c8] at H
                have c8b0 := eq_true c8
                have c8b1 : decide ((ji3) ≤ (x0_1.length : Int)) = true := decide_eq_true c8
                clear c8
                obtain ⟨y102, hy102⟩ : ∃ y_ : List Int, y_ = (x0_1.take ((ji3) : Int).toNat) := ⟨_, rfl⟩
                replace H : (nat_trim.l0 k1 y102) = some r := by first | (rw [hy102]; with_reducible exact H) | (have H2_ := (Option.bind_some _ _).symm.trans H; rw [hy102]; with_reducible exact H2_) | (have H2_ := (Option.bind_some _ _).symm.trans H; with_reducible exact H2_) | with_reducible exact H | (rw [hy102]; exact H) | exact H
                have Ny102 := Aside0.mk hy102
                clear hy102
                have H' := Aside0.mk H
                clear H
                obtain ⟨Ao9, co9, eo9⟩ := Kd.V_slice HO_0.out
                subst eo9
                have p101 : 0 ≤ ((ji3) : Int) := of_decide_eq_true (by first | (with_reducible assumption) | assumption)
                have q101 : (ji3) < (x0_1.length : Int) := of_decide_eq_true (by first | (with_reducible assumption) | assumption)
                obtain ⟨ad101, e101, hx101_0⟩ := Kd.at_int (Kd.V_reads' HO_0.out).2.2 (ji3) p101 q101
                cases e101
                replace p101 := eq_true p101
                replace q101 := eq_true q101
                have q10 : ((ji3) : Int) ≤ ((x0_1.length : Int) : Int) := of_decide_eq_true (by first | (with_reducible assumption) | assumption)
                obtain ⟨i010, hi010, _, hsz10, _⟩ := info_parts info38
                have hroom10 : x0_1.length ≤ co9 := (Kd.V_reads' HO_0.out).2.1
                have hC10 : Kd.F (Kd.int .u32) _ _ (some ad101) x0_1.length x0_1 := (Kd.V_at (base := w.heap.size) HO_0.out).2.2
                have hcut10 := cut_to (P := Tryd.prog) 23 38 .i64 Tryd.underlying23 hi010 (some ad101) x0_1.length co9 (ji3) (of_decide_eq_true (by first | (with_reducible assumption) | assumption)) q10 hroom10
                have hr10 := Kd.F_take (m := ((ji3) : Int).toNat) hC10 (by omega)
                have hy10 : y102.length = ((ji3) : Int).toNat := (by rw [Ny102.out, List.length_take]; omega)
                rw [← Ny102.out] at hr10
                rw [← hy10] at hcut10
                have HO106 := Aside0.mk (show Kd.V (Kd.int .u32) 38 _ w.heap.size _ (.slice (some ad101) y102.length co9) y102 from Kd.V_mk (by omega) hr10)
                have HC106 := Aside0.mk (show y102.length ≤ co9 from by omega)
                clear hr10 hC10 hroom10 hi010 hsz10
                have KY10 := Aside0.mk hy10
                clear hy10
                replace q10 := eq_true q10
                go_wp2
                go_roundg k1
                case measure => have := HK1.out; omega
                case rel => exact ⟨(y102), H', ⟨by have := HK1.out; omega⟩, ⟨by (with_reducible repeat (first | apply Kd.V_alloc | apply Kd.V_drewN | apply Kd.V_drew)); exact HO106.out⟩, ⟨by repeat (first | (with_reducible first | exact HB.out | apply below_alloc | apply pw_below_drewN | apply below_drew1) | exact HB.out)⟩⟩
              · rw [if_neg c8] at H
                exact absurd H (by simp)
            · rw [if_neg c6] at H
              have c6b0 : ((rd x0_1 (ji3)) == 0) = false := beq_eq_false_iff_ne.mpr c6
              have c6b1 : ((rd x0_1 (ji3)) != 0) = true := bne_iff_ne.mpr c6
              obtain rfl := Option.some.inj H
              obtain ⟨Ao11, co11, eo11⟩ := Kd.V_slice HO_0.out
              subst eo11
              have p101 : 0 ≤ ((ji3) : Int) := of_decide_eq_true (by first | (with_reducible assumption) | assumption)
              have q101 : (ji3) < (x0_1.length : Int) := of_decide_eq_true (by first | (with_reducible assumption) | assumption)
              obtain ⟨ad101, e101, hx101_0⟩ := Kd.at_int (Kd.V_reads' HO_0.out).2.2 (ji3) p101 q101
              cases e101
              replace p101 := eq_true p101
              replace q101 := eq_true q101
              go_wp2
              go_ret
              exact ⟨_, by first | rfl | (simp [errW_none, errW_some] <;> rfl) | (simp only [← hji3]; first | rfl | (simp [errW_none, errW_some] <;> rfl)) | (simp [*, errW_none, errW_some] <;> rfl), by (with_reducible repeat (first | apply Kd.V_alloc | apply Kd.V_drewN | apply Kd.V_drew)); exact HO_0.out, by repeat (first | (with_reducible first | exact HB.out | apply below_alloc | apply pw_below_drewN | apply below_drew1) | exact HB.out)⟩
          · rw [if_neg c5] at H
            exact absurd H (by simp)
        · rw [if_neg c4] at H
          exact absurd H (by simp)
      · rw [if_neg c2] at H
        have c2b0 : decide (0 < (x0_1.length : Int)) = false := decide_eq_false c2
        have c2b1 : decide (0 < x0_1.length) = false := decide_eq_false (by omega)
        clear c2
        obtain rfl := Option.some.inj H
        obtain ⟨Ao12, co12, eo12⟩ := Kd.V_slice HO_0.out
        subst eo12
        go_wp2
        go_ret
        exact ⟨_, by first | rfl | (simp [errW_none, errW_some] <;> rfl) | (simp [*, errW_none, errW_some] <;> rfl), by (with_reducible repeat (first | apply Kd.V_alloc | apply Kd.V_drewN | apply Kd.V_drew)); exact HO_0.out, by repeat (first | (with_reducible first | exact HB.out | apply below_alloc | apply pw_below_drewN | apply below_drew1) | exact HB.out)⟩

end Go.Proofs.YtkihjfpfocnneaaDoor.PNat

namespace Go.Proofs.YtkihjfpfocnneaaDoor.PNat
open Go.RowKit Go.Proofs.YtkihjfpfocnneaaDoorW.PrintWords Go.Proofs.YtkihjfpfocnneaaDoorW.PrintLast Go.Proofs.YtkihjfpfocnneaaDoorW.PrintMore
attribute [local go_sem] max2_int min2_int max_two min_two max_three min_three max_four min_four   -- for this text's walks alone
set_option linter.unusedVariables false
set_option linter.unusedSimpArgs false

/-! ### nat_large: function 42 -/
def nat_large.f (k : Nat) (l0 : List Int) : Option (Bool) := (nat_trim.f k l0).bind fun t107 => (some (decide ((t107.length : Int) > 2000)))
theorem nat_large.mono : ∀ a0 k, LeO (nat_large.f k a0) (nat_large.f (k + 1) a0) := by
  intro a0 k
  unfold nat_large.f
  repeat' first
      | (with_reducible exact nat_trim.mono _ _)
      | (with_reducible exact LeO.refl _)
      | (with_reducible exact LeO.none _)
      | (with_reducible refine LeO.ite ?_ ?_)
      | (with_reducible refine LeO.bind ?_ (fun _ => ?_))
      | exact nat_trim.mono _ _
      | exact LeO.none _
      | refine LeO.ite ?_ ?_
      | refine LeO.bind ?_ (fun _ => ?_)
set_option maxHeartbeats 8000000 in
set_option maxRecDepth 100000 in
theorem nat_large.calls (k : Nat) (A0 : Option Addr) (c0 : Nat) (l0 : List Int) (r : Bool) (w : World) (hr0 : Kd.C (Kd.int .u32) w A0 l0.length l0) (hc0 : l0.length ≤ c0) (h : nat_large.f k l0 = some r) :
    Calls Tryd.prog 42 #[.slice A0 l0.length c0] w fun e w' => e = .returned (.bool r) ∧ Below w.heap.size w w' := by
  have HR0 := Aside0.mk hr0
  have HC0 := Aside0.mk hc0
  clear hr0 hc0
  have HB := Aside0.mk (Below.refl w.heap.size w)
  have H : ((nat_trim.f k l0).bind fun t107 => (some (decide ((t107.length : Int) > 2000)))) = some r := h
  clear h
  replace H := Option.bind_eq_some_iff.mp H
  obtain ⟨t107, A20, H⟩ := H
  replace H : (some (decide ((t107.length : Int) > 2000))) = some r := H
  have A2 := Aside0.mk A20
  clear A20
  obtain rfl := Option.some.inj H
  go_enter Tryd.func42, Tryd.ntmps42
  go_wp2_with (first | ((with_reducible refine gate_callee (f := 35) rfl ?_); refine goesL_ (some 4) rfl rfl Tryd.func35 (by kernel_rfl) rfl #[.slice A0 l0.length c0] rfl (by (try simp only [List.map_toArray, List.map_cons, List.map_nil]); first | done | rfl | (simp only [List.length_drop, List.length_take]; rfl)) ?_; (with_reducible refine (nat_trim.calls k (fun k_ => k_ < w.heap.size) _ _ l0 t107 _ ?side1 A2.out).mono ?_); (case side1 => exact Kd.V_mk HC0.out (Kd.F_below (Kd.C_F (Kd.heap_int .u32) HR0.out) (by repeat (first | (with_reducible first | exact HB.out | apply below_alloc | apply pw_below_drewN | apply below_drew1) | exact HB.out)))); rintro e w3 ⟨v108, rfl, ho0, hb⟩; refine ⟨_, rfl, ?_⟩; have n0_ := Aside0.mk (Kd.V_lower (Kd.V_mono (ok' := fun k_ => True) ho0 (fun k_ hk_ => trivial)) (below_size (by repeat (first | (with_reducible first | exact HB.out | apply below_alloc | apply pw_below_drewN | apply below_drew1) | exact HB.out)))); have n1_ := Aside0.mk (below_step (by repeat (first | (with_reducible first | exact HB.out | apply below_alloc | apply pw_below_drewN | apply below_drew1) | exact HB.out)) hb); clear HB; have HO109 := n0_; have HB := n1_; clear n0_ n1_; (try clear hb); (try clear hb2); (try clear hk); (try clear hi); (try clear ho0); obtain ⟨Ao4, co4, eo4⟩ := Kd.V_slice HO109.out; subst eo4))
  go_ret
  exact ⟨by first | rfl | (simp [errW_none, errW_some] <;> rfl) | (simp [*, errW_none, errW_some] <;> rfl), by repeat (first | (with_reducible first | exact HB.out | apply below_alloc | apply pw_below_drewN | apply below_drew1) | exact HB.out)⟩

end Go.Proofs.YtkihjfpfocnneaaDoor.PNat

namespace Go.Proofs.YtkihjfpfocnneaaDoor.PNat
open Go.RowKit Go.Proofs.YtkihjfpfocnneaaDoorW.PrintWords Go.Proofs.YtkihjfpfocnneaaDoorW.PrintLast Go.Proofs.YtkihjfpfocnneaaDoorW.PrintMore
attribute [local go_sem] max2_int min2_int max_two min_two max_three min_three max_four min_four   -- for this text's walks alone
set_option linter.unusedVariables false
set_option linter.unusedSimpArgs false

/-! ### nat_fits: function 33 -/
def nat_fits.f (k : Nat) (l0 : List Int) : Option (List Int × Int) := (nat_large.f k l0).bind fun t110 => (if t110 = true then (some (([] : List Int), 2)) else ((nat_trim.f k l0).bind fun t111 => (some (t111, 0))))
theorem nat_fits.mono : ∀ a0 k, LeO (nat_fits.f k a0) (nat_fits.f (k + 1) a0) := by
  intro a0 k
  unfold nat_fits.f
  repeat' first
      | (with_reducible exact nat_large.mono _ _)
      | (with_reducible exact nat_trim.mono _ _)
      | (with_reducible exact LeO.refl _)
      | (with_reducible exact LeO.none _)
      | (with_reducible refine LeO.ite ?_ ?_)
      | (with_reducible refine LeO.bind ?_ (fun _ => ?_))
      | exact nat_large.mono _ _
      | exact nat_trim.mono _ _
      | exact LeO.none _
      | refine LeO.ite ?_ ?_
      | refine LeO.bind ?_ (fun _ => ?_)
set_option maxHeartbeats 8000000 in
set_option maxRecDepth 100000 in
theorem nat_fits.calls (k : Nat) (P0_ : Nat → Prop) (A0 : Option Addr) (c0 : Nat) (l0 : List Int) (r1 : List Int) (r2 : Int) (w : World) (hs0 : Kd.V (Kd.int .u32) 38 w w.heap.size (fun k_ => P0_ k_) (.slice A0 l0.length c0) l0) (h : nat_fits.f k l0 = some (r1, r2)) :
    Calls Tryd.prog 33 #[.slice A0 l0.length c0] w fun e w' => ∃ v0_ : Value, e = .returned (.tuple #[v0_, .int .i64 r2]) ∧ Kd.V (Kd.int .u32) 38 w' w.heap.size (fun k_ => (P0_ k_ ∨ w.heap.size ≤ k_)) v0_ r1 ∧ Below w.heap.size w w' := by
  have HO0 := Aside0.mk (show Kd.V (Kd.int .u32) 38 w w.heap.size (fun k_ => (P0_ k_ ∨ w.heap.size ≤ k_)) (.slice A0 l0.length c0) l0 from Kd.V_mono hs0 (fun k_ hk => .inl hk))
  have HB := Aside0.mk (Below.refl w.heap.size w)
  have H : ((nat_large.f k l0).bind fun t110 => (if t110 = true then (some (([] : List Int), 2)) else ((nat_trim.f k l0).bind fun t111 => (some (t111, 0))))) = some (r1, r2) := h
  clear h
  replace H := Option.bind_eq_some_iff.mp H
  obtain ⟨t110, A20, H⟩ := H
  replace H : (if t110 = true then (some (([] : List Int), 2)) else ((nat_trim.f k l0).bind fun t111 => (some (t111, 0)))) = some (r1, r2) := H
  have A2 := Aside0.mk A20
  clear A20
  by_cases c3 : t110 = true
  · subst c3
    have H1 : (some (([] : List Int), 2)) = some (r1, r2) := by rw [if_pos rfl] at H; exact H
    clear H
    have H := H1
    clear H1
    simp only [Option.some.injEq, Prod.mk.injEq] at H
    obtain ⟨rfl, rfl⟩ := H
    go_enter Tryd.func33, Tryd.ntmps33
    go_wp2_with (first | ((with_reducible refine gate_callee (f := 42) rfl ?_); refine goesL_ (some 5) rfl rfl Tryd.func42 (by kernel_rfl) rfl #[.slice A0 l0.length c0] rfl (by (try simp only [List.map_toArray, List.map_cons, List.map_nil]); first | done | rfl | (simp only [List.length_drop, List.length_take]; rfl)) ?_; (with_reducible refine (nat_large.calls k _ _ l0 true _ ?side1 ?side2 A2.out).mono ?_); (case side1 => repeat (first | exact (Kd.V_reads' HO0.out).2.2 | (with_reducible refine Kd.C_alloc ?_ _) | (with_reducible refine Kd.C_drewN ?_ _) | (with_reducible refine Kd.C_drew ?_))); (case side2 => exact (Kd.V_reads' HO0.out).2.1); rintro e w4 ⟨rfl, hb⟩; refine ⟨_, rfl, ?_⟩; have n0_ := Aside0.mk (Kd.V_below (by (with_reducible repeat (first | apply Kd.V_alloc | apply Kd.V_drewN | apply Kd.V_drew)); exact HO0.out) hb); have n1_ := Aside0.mk (below_step (by repeat (first | (with_reducible first | exact HB.out | apply below_alloc | apply pw_below_drewN | apply below_drew1) | exact HB.out)) hb); clear HO0; clear HB; have HO0 := n0_; have HB := n1_; clear n0_ n1_; (try clear hb); (try clear hb2); (try clear hk); (try clear hi)))
    go_ret2
    exact ⟨_, by first | rfl | (simp [errW_none, errW_some] <;> rfl) | (simp [*, errW_none, errW_some] <;> rfl), Kd.V_mono (Kd.R_V (by first | exact Kd.R_nil _ _ _ _ _ | exact Kd.R_nil _ 38 _ 0 (fun _ => False) | exact Kd.R_nil _ 38 _ 0 _ | exact Kd.R_nil _ _ _ _ _ | exact Kd.N_nil _ _ _ _ _ | exact Kd.V_nil _ _ _ _ _ | exact Kd.Q_nil _ _ _ _ _ | exact Kd.S_nil _ _ _ _ _)) (fun k_ hk => by first | exact hk.elim | exact ⟨(.inr (hk.1)), hk.2⟩ | exact (.inr (hk))), by repeat (first | (with_reducible first | exact HB.out | apply below_alloc | apply pw_below_drewN | apply below_drew1) | exact HB.out)⟩
  · replace c3 := Bool.eq_false_iff.mpr c3
    subst c3
    have H1 : ((nat_trim.f k l0).bind fun t111 => (some (t111, 0))) = some (r1, r2) := by rw [if_neg (show ¬ (false = true) by decide)] at H; exact H
    clear H
    have H := H1
    clear H1
    replace H := Option.bind_eq_some_iff.mp H
    obtain ⟨t111, A50, H⟩ := H
    replace H : (some (t111, 0)) = some (r1, r2) := H
    have A5 := Aside0.mk A50
    clear A50
    simp only [Option.some.injEq, Prod.mk.injEq] at H
    obtain ⟨rfl, rfl⟩ := H
    go_enter Tryd.func33, Tryd.ntmps33
    go_wp2_with (first | ((with_reducible refine gate_callee (f := 42) rfl ?_); refine goesL_ (some 5) rfl rfl Tryd.func42 (by kernel_rfl) rfl #[.slice A0 l0.length c0] rfl (by (try simp only [List.map_toArray, List.map_cons, List.map_nil]); first | done | rfl | (simp only [List.length_drop, List.length_take]; rfl)) ?_; (with_reducible refine (nat_large.calls k _ _ l0 false _ ?side1 ?side2 A2.out).mono ?_); (case side1 => repeat (first | exact (Kd.V_reads' HO0.out).2.2 | (with_reducible refine Kd.C_alloc ?_ _) | (with_reducible refine Kd.C_drewN ?_ _) | (with_reducible refine Kd.C_drew ?_))); (case side2 => exact (Kd.V_reads' HO0.out).2.1); rintro e w6 ⟨rfl, hb⟩; refine ⟨_, rfl, ?_⟩; have n0_ := Aside0.mk (Kd.V_below (by (with_reducible repeat (first | apply Kd.V_alloc | apply Kd.V_drewN | apply Kd.V_drew)); exact HO0.out) hb); have n1_ := Aside0.mk (below_step (by repeat (first | (with_reducible first | exact HB.out | apply below_alloc | apply pw_below_drewN | apply below_drew1) | exact HB.out)) hb); clear HO0; clear HB; have HO0 := n0_; have HB := n1_; clear n0_ n1_; (try clear hb); (try clear hb2); (try clear hk); (try clear hi)) | ((with_reducible refine gate_callee (f := 35) rfl ?_); refine goesL_ (some 7) rfl rfl Tryd.func35 (by kernel_rfl) rfl #[.slice A0 l0.length c0] rfl (by (try simp only [List.map_toArray, List.map_cons, List.map_nil]); first | done | rfl | (simp only [List.length_drop, List.length_take]; rfl)) ?_; (with_reducible refine (nat_trim.calls k (fun k_ => (P0_ k_ ∨ w.heap.size ≤ k_)) _ _ l0 t111 _ ?side1 A5.out).mono ?_); (case side1 => exact HO0.out); rintro e w7 ⟨v112, rfl, ho0, hb⟩; refine ⟨_, rfl, ?_⟩; have n0_ := Aside0.mk (Kd.V_below (by (with_reducible repeat (first | apply Kd.V_alloc | apply Kd.V_drewN | apply Kd.V_drew)); exact HO0.out) hb); have n1_ := Aside0.mk (Kd.V_lower (Kd.V_mono (ok' := fun k_ => (P0_ k_ ∨ w.heap.size ≤ k_)) ho0 (fun k_ hk_ => Or.elim hk_ (fun hs_ => hs_) (fun hn_ => (.inr (Nat.le_trans (below_size (by repeat (first | (with_reducible first | exact HB.out | apply below_alloc | apply pw_below_drewN | apply below_drew1) | exact HB.out))) hn_))))) (below_size (by repeat (first | (with_reducible first | exact HB.out | apply below_alloc | apply pw_below_drewN | apply below_drew1) | exact HB.out)))); have n2_ := Aside0.mk (below_step (by repeat (first | (with_reducible first | exact HB.out | apply below_alloc | apply pw_below_drewN | apply below_drew1) | exact HB.out)) hb); clear HO0; clear HB; have HO0 := n0_; have HO113 := n1_; have HB := n2_; clear n0_ n1_ n2_; (try clear hb); (try clear hb2); (try clear hk); (try clear hi); (try clear ho0)))
    go_ret2
    exact ⟨_, by first | rfl | (simp [errW_none, errW_some] <;> rfl) | (simp [*, errW_none, errW_some] <;> rfl), by (with_reducible repeat (first | apply Kd.V_alloc | apply Kd.V_drewN | apply Kd.V_drew)); exact HO113.out, by repeat (first | (with_reducible first | exact HB.out | apply below_alloc | apply pw_below_drewN | apply below_drew1) | exact HB.out)⟩

end Go.Proofs.YtkihjfpfocnneaaDoor.PNat

namespace Go.Proofs.YtkihjfpfocnneaaDoor.PNat
open Go.RowKit Go.Proofs.YtkihjfpfocnneaaDoorW.PrintWords Go.Proofs.YtkihjfpfocnneaaDoorW.PrintLast Go.Proofs.YtkihjfpfocnneaaDoorW.PrintMore
attribute [local go_sem] max2_int min2_int max_two min_two max_three min_three max_four min_four   -- for this text's walks alone
set_option linter.unusedVariables false
set_option linter.unusedSimpArgs false

/-! ### nat_Parse: function 10 -/
mutual
def nat_Parse.l0 : Nat → ByteArray → Int → Int → Option (List Int × Int)
  | 0, _, _, _ => none
  | k + 1, x0, x11, x12 => if x12 < x11 then (if 0 ≤ x12 then (if x12 < (x0.size : Int) then (if (bt x0 x12) < 48 then (some (([] : List Int), 3)) else (if (bt x0 x12) > 57 then (some (([] : List Int), 3)) else (nat_Parse.l0 k x0 x11 (wrap64 (x12 + 1))))) else (none)) else (none)) else (if x0.toList = ([] : List UInt8) then (some (([] : List Int), 3)) else (if (x0.size : Int) > 5000 then (some (([] : List Int), 2)) else (nat_Parse.l1 k x0 ([] : List Int))))
def nat_Parse.l1 : Nat → ByteArray → List Int → Option (List Int × Int)
  | 0, _, _ => none
  | k + 1, x0, x5 => if (x0.size : Int) > 0 then (nat_Parse.l2 k x0 x5 (mn (x0.size : Int) 9) 1 0 (mn (x0.size : Int) 9) 0) else ((nat_fits.f k x5).bind fun bt114 => (some (bt114.1, bt114.2)))
def nat_Parse.l2 : Nat → ByteArray → List Int → Int → Int → Int → Int → Int → Option (List Int × Int)
  | 0, _, _, _, _, _, _, _ => none
  | k + 1, x0, x5, x6, x7, x8, x39, x40 => if x40 < x39 then (if 0 ≤ x40 then (if x40 < (x0.size : Int) then (nat_Parse.l2 k x0 x5 x6 ((x7 * 10) % 4294967296) ((((x8 * 10) % 4294967296) + (((bt x0 x40) - 48) % 256)) % 4294967296) x39 (wrap64 (x40 + 1))) else (none)) else (none)) else ((nat_more.f x5 x7 x8).bind fun t118 => (if 0 ≤ x6 then (if x6 ≤ (x0.size : Int) then (nat_Parse.l1 k (x0.extract (x6 : Int).toNat x0.size) t118) else (none)) else (none)))
end
def nat_Parse.f (k : Nat) (a0 : ByteArray) : Option (List Int × Int) := nat_Parse.l0 k a0 (a0.size : Int) 0
theorem nat_Parse.mono_l : ∀ k, (∀ y0 y1 y2, LeO (nat_Parse.l0 k y0 y1 y2) (nat_Parse.l0 (k + 1) y0 y1 y2)) ∧ (∀ y0 y1, LeO (nat_Parse.l1 k y0 y1) (nat_Parse.l1 (k + 1) y0 y1)) ∧ (∀ y0 y1 y2 y3 y4 y5 y6, LeO (nat_Parse.l2 k y0 y1 y2 y3 y4 y5 y6) (nat_Parse.l2 (k + 1) y0 y1 y2 y3 y4 y5 y6))
  | 0 => ⟨fun _ _ _ r h => by simp [nat_Parse.l0] at h, fun _ _ r h => by simp [nat_Parse.l1] at h, fun _ _ _ _ _ _ _ r h => by simp [nat_Parse.l2] at h⟩
  | k + 1 => by
    obtain ⟨ih0, ih1, ih2⟩ := nat_Parse.mono_l k
    refine ⟨?_, ?_, ?_⟩
    · intro y0 y1 y2
      unfold nat_Parse.l0
      repeat' first
      | (with_reducible exact ih0 _ _ _)
      | (with_reducible exact ih1 _ _)
      | (with_reducible exact ih2 _ _ _ _ _ _ _)
      | (with_reducible exact nat_fits.mono _ _)
      | (with_reducible exact LeO.refl _)
      | (with_reducible exact LeO.none _)
      | (with_reducible refine LeO.ite ?_ ?_)
      | (with_reducible refine LeO.bind ?_ (fun _ => ?_))
      | exact ih0 _ _ _
      | exact ih1 _ _
      | exact ih2 _ _ _ _ _ _ _
      | exact nat_fits.mono _ _
      | exact LeO.none _
      | refine LeO.ite ?_ ?_
      | refine LeO.bind ?_ (fun _ => ?_)
    · intro y0 y1
      unfold nat_Parse.l1
      repeat' first
      | (with_reducible exact ih0 _ _ _)
      | (with_reducible exact ih1 _ _)
      | (with_reducible exact ih2 _ _ _ _ _ _ _)
      | (with_reducible exact nat_fits.mono _ _)
      | (with_reducible exact LeO.refl _)
      | (with_reducible exact LeO.none _)
      | (with_reducible refine LeO.ite ?_ ?_)
      | (with_reducible refine LeO.bind ?_ (fun _ => ?_))
      | exact ih0 _ _ _
      | exact ih1 _ _
      | exact ih2 _ _ _ _ _ _ _
      | exact nat_fits.mono _ _
      | exact LeO.none _
      | refine LeO.ite ?_ ?_
      | refine LeO.bind ?_ (fun _ => ?_)
    · intro y0 y1 y2 y3 y4 y5 y6
      unfold nat_Parse.l2
      repeat' first
      | (with_reducible exact ih0 _ _ _)
      | (with_reducible exact ih1 _ _)
      | (with_reducible exact ih2 _ _ _ _ _ _ _)
      | (with_reducible exact nat_fits.mono _ _)
      | (with_reducible exact LeO.refl _)
      | (with_reducible exact LeO.none _)
      | (with_reducible refine LeO.ite ?_ ?_)
      | (with_reducible refine LeO.bind ?_ (fun _ => ?_))
      | exact ih0 _ _ _
      | exact ih1 _ _
      | exact ih2 _ _ _ _ _ _ _
      | exact nat_fits.mono _ _
      | exact LeO.none _
      | refine LeO.ite ?_ ?_
      | refine LeO.bind ?_ (fun _ => ?_)
theorem nat_Parse.mono : ∀ a0 k, LeO (nat_Parse.f k a0) (nat_Parse.f (k + 1) a0) := by
  intro a0 k
  obtain ⟨ih0, ih1, ih2⟩ := nat_Parse.mono_l k
  unfold nat_Parse.f
  repeat' first
      | (with_reducible exact ih0 _ _ _)
      | (with_reducible exact ih1 _ _)
      | (with_reducible exact ih2 _ _ _ _ _ _ _)
      | (with_reducible exact nat_fits.mono _ _)
      | (with_reducible exact LeO.refl _)
      | (with_reducible exact LeO.none _)
      | (with_reducible refine LeO.ite ?_ ?_)
      | (with_reducible refine LeO.bind ?_ (fun _ => ?_))
      | exact ih0 _ _ _
      | exact ih1 _ _
      | exact ih2 _ _ _ _ _ _ _
      | exact nat_fits.mono _ _
      | exact LeO.none _
      | refine LeO.ite ?_ ?_
      | refine LeO.bind ?_ (fun _ => ?_)
set_option maxHeartbeats 8000000 in
set_option maxRecDepth 100000 in
theorem nat_Parse.calls (k : Nat) (a0 : ByteArray) (r1 : List Int) (r2 : Int) (w : World) (h : nat_Parse.f k a0 = some (r1, r2)) :
    Calls Tryd.prog 10 #[.string a0] w fun e w' => ∃ v0_ : Value, e = .returned (.tuple #[v0_, .int .i64 r2]) ∧ Kd.V (Kd.int .u32) 38 w' w.heap.size (fun k_ => (w.heap.size ≤ k_)) v0_ r1 ∧ Below w.heap.size w w' := by
  have HB := Aside0.mk (Below.refl w.heap.size w)
  have H : (nat_Parse.l0 k a0 (a0.size : Int) 0) = some (r1, r2) := h
  clear h
  have H' := Aside0.mk H
  clear H
  go_enter Tryd.func10, Tryd.ntmps10
  go_wp2
  repeat (go_quiet (fail); try go_wp2)
  go_loopg [12] k (fun kq v12 w' => ∃ (x12_1 : Int), v12 = .int .i64 x12_1 ∧ Aside0 (nat_Parse.l0 kq a0 (a0.size : Int) x12_1 = some (r1, r2)) ∧ Aside0 (kq ≤ k) ∧ Aside0 (Below w.heap.size w w'))
  case atStart => exact ⟨(0), (by first | rfl | (simp; done) | (simp [*]; done)), H', ⟨Nat.le_refl _⟩, ⟨by repeat (first | (with_reducible first | exact HB.out | apply below_alloc | apply pw_below_drewN | apply below_drew1) | exact HB.out)⟩⟩
  case round =>
    clear H'
    try clear c1
    obtain ⟨x12_1, rfl, HA, HK1, HB⟩ := hrel
    cases gk with
    | zero => exact absurd HA.out (by simp [nat_Parse.l0])
    | succ k1 =>
      have H := HA.out
      clear HA
      simp only [nat_Parse.l0] at H
      by_cases c2 : x12_1 < (a0.size : Int)
      · rw [if_pos c2] at H
        have c2b0 : decide (x12_1 < (a0.size : Int)) = true := decide_eq_true c2
        clear c2
        by_cases c3 : 0 ≤ x12_1
        · rw [if_pos c3] at H
          have c3b0 : decide (0 ≤ x12_1) = true := decide_eq_true c3
          clear c3
          by_cases c4 : x12_1 < (a0.size : Int)
          · rw [if_pos c4] at H
            have c4b0 : decide (x12_1 < (a0.size : Int)) = true := decide_eq_true c4
            clear c4
            by_cases c6 : (bt a0 x12_1) < 48
            · rw [if_pos c6] at H
              have c6b0 : decide ((bt a0 x12_1) < 48) = true := decide_eq_true c6
              clear c6
              simp only [Option.some.injEq, Prod.mk.injEq] at H
              obtain ⟨rfl, rfl⟩ := H
              have p5 : 0 ≤ (x12_1 : Int) := of_decide_eq_true (by first | (with_reducible assumption) | assumption)
              have q5 : x12_1 < (a0.size : Int) := of_decide_eq_true (by first | (with_reducible assumption) | assumption)
              have hx5 := bt_at a0 x12_1
              replace p5 := eq_true p5
              replace q5 := eq_true q5
              go_wp2
              repeat (go_quiet (fail); try go_wp2)
              go_ret2
              exact ⟨_, by first | rfl | (simp [errW_none, errW_some] <;> rfl) | (simp [*, errW_none, errW_some] <;> rfl), Kd.R_V (by first | exact Kd.R_nil _ _ _ _ _ | exact Kd.R_nil _ 38 _ 0 (fun _ => False) | exact Kd.R_nil _ 38 _ 0 _ | exact Kd.R_nil _ _ _ _ _ | exact Kd.N_nil _ _ _ _ _ | exact Kd.V_nil _ _ _ _ _ | exact Kd.Q_nil _ _ _ _ _ | exact Kd.S_nil _ _ _ _ _), by repeat (first | (with_reducible first | exact HB.out | apply below_alloc | apply pw_below_drewN | apply below_drew1) | exact HB.out)⟩
            · rw [if_neg c6] at H
              have c6b0 : decide ((bt a0 x12_1) < 48) = false := decide_eq_false c6
              clear c6
              by_cases c8 : (bt a0 x12_1) > 57
              · rw [if_pos c8] at H
                have c8b0 : decide (57 < (bt a0 x12_1)) = true := decide_eq_true c8
                clear c8
                simp only [Option.some.injEq, Prod.mk.injEq] at H
                obtain ⟨rfl, rfl⟩ := H
                have p5 : 0 ≤ (x12_1 : Int) := of_decide_eq_true (by first | (with_reducible assumption) | assumption)
                have q5 : x12_1 < (a0.size : Int) := of_decide_eq_true (by first | (with_reducible assumption) | assumption)
                have hx5 := bt_at a0 x12_1
                replace p5 := eq_true p5
                replace q5 := eq_true q5
                have p7 : 0 ≤ (x12_1 : Int) := of_decide_eq_true (by first | (with_reducible assumption) | assumption)
                have q7 : x12_1 < (a0.size : Int) := of_decide_eq_true (by first | (with_reducible assumption) | assumption)
                have hx7 := bt_at a0 x12_1
                replace p7 := eq_true p7
                replace q7 := eq_true q7
                go_wp2
                repeat (go_quiet (fail); try go_wp2)
                go_ret2
                exact ⟨_, by first | rfl | (simp [errW_none, errW_some] <;> rfl) | (simp [*, errW_none, errW_some] <;> rfl), Kd.R_V (by first | exact Kd.R_nil _ _ _ _ _ | exact Kd.R_nil _ 38 _ 0 (fun _ => False) | exact Kd.R_nil _ 38 _ 0 _ | exact Kd.R_nil _ _ _ _ _ | exact Kd.N_nil _ _ _ _ _ | exact Kd.V_nil _ _ _ _ _ | exact Kd.Q_nil _ _ _ _ _ | exact Kd.S_nil _ _ _ _ _), by repeat (first | (with_reducible first | exact HB.out | apply below_alloc | apply pw_below_drewN | apply below_drew1) | exact HB.out)⟩
              · rw [if_neg c8] at H
                have c8b0 : decide (57 < (bt a0 x12_1)) = false := decide_eq_false c8
                clear c8
                have H' := Aside0.mk H
                clear H
                have p5 : 0 ≤ (x12_1 : Int) := of_decide_eq_true (by first | (with_reducible assumption) | assumption)
                have q5 : x12_1 < (a0.size : Int) := of_decide_eq_true (by first | (with_reducible assumption) | assumption)
                have hx5 := bt_at a0 x12_1
                replace p5 := eq_true p5
                replace q5 := eq_true q5
                have p7 : 0 ≤ (x12_1 : Int) := of_decide_eq_true (by first | (with_reducible assumption) | assumption)
                have q7 : x12_1 < (a0.size : Int) := of_decide_eq_true (by first | (with_reducible assumption) | assumption)
                have hx7 := bt_at a0 x12_1
                replace p7 := eq_true p7
                replace q7 := eq_true q7
                go_wp2
                repeat (go_quiet (fail); try go_wp2)
                go_roundg k1
                case measure => have := HK1.out; omega
                case rel => exact ⟨(wrap64 (x12_1 + 1)), (by first | rfl | (simp; done) | (simp [*]; done)), H', ⟨by have := HK1.out; omega⟩, ⟨by repeat (first | (with_reducible first | exact HB.out | apply below_alloc | apply pw_below_drewN | apply below_drew1) | exact HB.out)⟩⟩
          · rw [if_neg c4] at H
            exact absurd H (by simp)
        · rw [if_neg c3] at H
          exact absurd H (by simp)
      · rw [if_neg c2] at H
        have c2b0 : decide (x12_1 < (a0.size : Int)) = false := decide_eq_false c2
        clear c2
        by_cases c9 : a0.toList = ([] : List UInt8)
        · rw [if_pos c9] at H
          have c9b0 : (a0.toList == ([] : List UInt8)) = true := beq_iff_eq.mpr c9
          have c9b1 : (a0.toList != ([] : List UInt8)) = false := bne_eq_false_iff_eq.mpr c9
          clear c9
          simp only [Option.some.injEq, Prod.mk.injEq] at H
          obtain ⟨rfl, rfl⟩ := H
          go_wp2
          repeat (go_quiet (fail); try go_wp2)
          go_ret2
          exact ⟨_, by first | rfl | (simp [errW_none, errW_some] <;> rfl) | (simp [*, errW_none, errW_some] <;> rfl), Kd.R_V (by first | exact Kd.R_nil _ _ _ _ _ | exact Kd.R_nil _ 38 _ 0 (fun _ => False) | exact Kd.R_nil _ 38 _ 0 _ | exact Kd.R_nil _ _ _ _ _ | exact Kd.N_nil _ _ _ _ _ | exact Kd.V_nil _ _ _ _ _ | exact Kd.Q_nil _ _ _ _ _ | exact Kd.S_nil _ _ _ _ _), by repeat (first | (with_reducible first | exact HB.out | apply below_alloc | apply pw_below_drewN | apply below_drew1) | exact HB.out)⟩
        · rw [if_neg c9] at H
          have c9b0 : (a0.toList == ([] : List UInt8)) = false := beq_eq_false_iff_ne.mpr c9
          have c9b1 : (a0.toList != ([] : List UInt8)) = true := bne_iff_ne.mpr c9
          by_cases c10 : (a0.size : Int) > 5000
          · rw [if_pos c10] at H
            have c10b0 : decide (5000 < (a0.size : Int)) = true := decide_eq_true c10
            have c10b1 : decide (5000 < a0.size) = true := decide_eq_true (by omega)
            clear c10
            simp only [Option.some.injEq, Prod.mk.injEq] at H
            obtain ⟨rfl, rfl⟩ := H
            go_wp2
            repeat (go_quiet (fail); try go_wp2)
            go_ret2
            exact ⟨_, by first | rfl | (simp [errW_none, errW_some] <;> rfl) | (simp [*, errW_none, errW_some] <;> rfl), Kd.R_V (by first | exact Kd.R_nil _ _ _ _ _ | exact Kd.R_nil _ 38 _ 0 (fun _ => False) | exact Kd.R_nil _ 38 _ 0 _ | exact Kd.R_nil _ _ _ _ _ | exact Kd.N_nil _ _ _ _ _ | exact Kd.V_nil _ _ _ _ _ | exact Kd.Q_nil _ _ _ _ _ | exact Kd.S_nil _ _ _ _ _), by repeat (first | (with_reducible first | exact HB.out | apply below_alloc | apply pw_below_drewN | apply below_drew1) | exact HB.out)⟩
          · rw [if_neg c10] at H
            have c10b0 : decide (5000 < (a0.size : Int)) = false := decide_eq_false c10
            have c10b1 : decide (5000 < a0.size) = false := decide_eq_false (by omega)
            clear c10
            have H' := Aside0.mk H
            clear H
            go_wp2
            repeat (go_quiet (fail); try go_wp2)
            go_loopg [0, 5] k1 (fun kq v0 v5 w' => ∃ (x0_2 : ByteArray) (x5_2 : List Int), v0 = .string x0_2 ∧ Aside0 (nat_Parse.l1 kq x0_2 x5_2 = some (r1, r2)) ∧ Aside0 (kq ≤ k1) ∧ Aside0 (Kd.R (Kd.int .u32) 38 w' w.heap.size (fun k_ => (w.heap.size ≤ k_)) v5 x5_2) ∧ Aside0 (Below w.heap.size w w'))
            case atStart => exact ⟨(a0), (([] : List Int)), (by first | rfl | (simp; done) | (simp [*]; done)), H', ⟨Nat.le_refl _⟩, ⟨by first | exact Kd.R_nil _ _ _ _ _ | exact Kd.R_nil _ 38 _ 0 (fun _ => False) | exact Kd.R_nil _ 38 _ 0 _ | exact Kd.R_nil _ _ _ _ _ | exact Kd.N_nil _ _ _ _ _ | exact Kd.V_nil _ _ _ _ _ | exact Kd.Q_nil _ _ _ _ _ | exact Kd.S_nil _ _ _ _ _⟩, ⟨by repeat (first | (with_reducible first | exact HB.out | apply below_alloc | apply pw_below_drewN | apply below_drew1) | exact HB.out)⟩⟩
            case round =>
              clear H'
              try clear c1
              try clear c2
              try clear c2b0
              try clear p2
              try clear c3
              try clear c3b0
              try clear c4
              try clear c4b0
              try clear p5
              try clear q5
              try clear hx5
              try clear c6
              try clear c6b0
              try clear p6
              try clear p7
              try clear q7
              try clear hx7
              try clear c8
              try clear c8b0
              try clear c9
              try clear c9b0
              try clear c9b1
              try clear c10
              try clear c10b0
              try clear c10b1
              try clear p5
              try clear p7
              try clear q5
              try clear q7
              obtain ⟨x0_2, x5_2, rfl, HA, HK2, HO_5, HB⟩ := hrel
              cases gk with
              | zero => exact absurd HA.out (by simp [nat_Parse.l1])
              | succ k2 =>
                have H := HA.out
                clear HA
                simp only [nat_Parse.l1] at H
                by_cases c11 : (x0_2.size : Int) > 0
                · rw [if_pos c11] at H
                  have c11b0 : decide (0 < (x0_2.size : Int)) = true := decide_eq_true c11
                  have c11b1 : decide (0 < x0_2.size) = true := decide_eq_true (by omega)
                  clear c11
                  obtain ⟨ji12, hji12⟩ : ∃ j_ : Int, (mn (x0_2.size : Int) 9) = j_ := ⟨_, rfl⟩
                  replace H : (nat_Parse.l2 k2 x0_2 x5_2 ji12 1 0 ji12 0) = some (r1, r2) := by first | (rw [hji12] at H; exact H) | (simp only [hji12] at H ⊢; exact H)
                  have hji12_ : (if 9 < (x0_2.size : Int) then 9 else (x0_2.size : Int)) = ji12 := hji12
                  have H' := Aside0.mk H
                  clear H
                  go_wp2
                  repeat (go_quiet (fail); try go_wp2)
                  go_loopg [7, 8, 40] k2 (fun kq v7 v8 v40 w' => ∃ (x7_3 : Int) (x8_3 : Int) (x40_3 : Int), v7 = .int .u32 x7_3 ∧ v8 = .int .u32 x8_3 ∧ v40 = .int .i64 x40_3 ∧ Aside0 (nat_Parse.l2 kq x0_2 x5_2 ji12 x7_3 x8_3 ji12 x40_3 = some (r1, r2)) ∧ Aside0 (kq ≤ k2) ∧ Aside0 (Kd.R (Kd.int .u32) 38 w' w.heap.size (fun k_ => (w.heap.size ≤ k_)) u5 x5_2) ∧ Aside0 (Below w.heap.size w w'))
                  case atStart => exact ⟨(1), (0), (0), (by first | rfl | (simp; done) | (simp [*]; done)), (by first | rfl | (simp; done) | (simp [*]; done)), (by first | rfl | (simp; done) | (simp [*]; done)), H', ⟨Nat.le_refl _⟩, ⟨by (with_reducible repeat (first | apply Kd.R_alloc | apply Kd.R_drewN | apply Kd.R_drew)); exact HO_5.out⟩, ⟨by repeat (first | (with_reducible first | exact HB.out | apply below_alloc | apply pw_below_drewN | apply below_drew1) | exact HB.out)⟩⟩
                  case round =>
                    clear H'
                    try clear c1
                    try clear c2
                    try clear c2b0
                    try clear p2
                    try clear c3
                    try clear c3b0
                    try clear c4
                    try clear c4b0
                    try clear p5
                    try clear q5
                    try clear hx5
                    try clear c6
                    try clear c6b0
                    try clear p6
                    try clear p7
                    try clear q7
                    try clear hx7
                    try clear c8
                    try clear c8b0
                    try clear c9
                    try clear c9b0
                    try clear c9b1
                    try clear c10
                    try clear c10b0
                    try clear c10b1
                    try clear c11
                    try clear c11b0
                    try clear c11b1
                    try clear p2
                    try clear p5
                    try clear p6
                    try clear p7
                    try clear q5
                    try clear q7
                    obtain ⟨x7_3, x8_3, x40_3, rfl, rfl, rfl, HA, HK3, HO_5, HB⟩ := hrel
                    cases gk with
                    | zero => exact absurd HA.out (by simp [nat_Parse.l2])
                    | succ k3 =>
                      have H := HA.out
                      clear HA
                      simp only [nat_Parse.l2] at H
                      by_cases c13 : x40_3 < ji12
                      · rw [if_pos c13] at H
                        have c13b0 : decide (x40_3 < ji12) = true := decide_eq_true c13
                        clear c13
                        by_cases c14 : 0 ≤ x40_3
                        · rw [if_pos c14] at H
                          have c14b0 : decide (0 ≤ x40_3) = true := decide_eq_true c14
                          clear c14
                          by_cases c15 : x40_3 < (x0_2.size : Int)
                          · rw [if_pos c15] at H
                            have c15b0 : decide (x40_3 < (x0_2.size : Int)) = true := decide_eq_true c15
                            clear c15
                            have H' := Aside0.mk H
                            clear H
                            have p16 : 0 ≤ (x40_3 : Int) := of_decide_eq_true (by first | (with_reducible assumption) | assumption)
                            have q16 : x40_3 < (x0_2.size : Int) := of_decide_eq_true (by first | (with_reducible assumption) | assumption)
                            have hx16 := bt_at x0_2 x40_3
                            replace p16 := eq_true p16
                            replace q16 := eq_true q16
                            go_wp2
                            repeat (go_quiet (fail); try go_wp2)
                            go_roundg k3
                            case measure => have := HK1.out; have := HK2.out; have := HK3.out; omega
                            case rel => exact ⟨((x7_3 * 10) % 4294967296), ((((x8_3 * 10) % 4294967296) + (((bt x0_2 x40_3) - 48) % 256)) % 4294967296), (wrap64 (x40_3 + 1)), (by first | rfl | (simp; done) | (simp [*]; done)), (by first | rfl | (simp; done) | (simp [*]; done)), (by first | rfl | (simp; done) | (simp [*]; done)), H', ⟨by have := HK1.out; have := HK2.out; have := HK3.out; omega⟩, ⟨by (with_reducible repeat (first | apply Kd.R_alloc | apply Kd.R_drewN | apply Kd.R_drew)); exact HO_5.out⟩, ⟨by repeat (first | (with_reducible first | exact HB.out | apply below_alloc | apply pw_below_drewN | apply below_drew1) | exact HB.out)⟩⟩
                          · rw [if_neg c15] at H
                            exact absurd H (by simp)
                        · rw [if_neg c14] at H
                          exact absurd H (by simp)
                      · rw [if_neg c13] at H
                        have c13b0 : decide (x40_3 < ji12) = false := decide_eq_false c13
                        clear c13
                        replace H := Option.bind_eq_some_iff.mp H
                        obtain ⟨t118, A170, H⟩ := H
                        replace H : (if 0 ≤ ji12 then (if ji12 ≤ (x0_2.size : Int) then (nat_Parse.l1 k3 (x0_2.extract (ji12 : Int).toNat x0_2.size) t118) else (none)) else (none)) = some (r1, r2) := H
                        have A17 := Aside0.mk A170
                        clear A170
                        by_cases c18 : 0 ≤ ji12
                        · rw [if_pos c18] at H
                          have c18b0 := eq_true c18
                          have c18b1 : decide (0 ≤ ji12) = true := decide_eq_true c18
                          clear c18
                          by_cases c19 : ji12 ≤ (x0_2.size : Int)
                          · rw [if_pos c19] at H
                            have c19b0 := eq_true c19
                            have c19b1 : decide (ji12 ≤ (x0_2.size : Int)) = true := decide_eq_true c19
                            clear c19
                            have H' := Aside0.mk H
                            clear H
                            obtain ⟨Ao20, co20, eo20⟩ := Kd.R_slice HO_5.out
                            subst eo20
                            go_wp2_with (first | (go_at_call 32; (with_reducible refine (nat_more.calls (fun k_ => some k_ = (.slice Ao20 x5_2.length co20 : Value).ownBlock) (.slice Ao20 x5_2.length co20) x5_2 x7_3 x8_3 t118 w _ ?side1 ?side2 A17.out).mono ?_); (case side1 => repeat (first | (with_reducible first | exact HB.out | apply below_alloc | apply pw_below_drewN | apply below_drew1) | exact HB.out)); (case side2 => exact Kd.R_tight rfl HO_5.out); rintro e w21 ⟨v119, rfl, ho0, hb, hkp⟩; have n0_ := Aside0.mk (Kd.R_mono (ok' := fun k_ => (w.heap.size ≤ k_)) ho0 (fun k_ hk_ => Or.elim hk_ (fun hs_ => (HO_5.out.1 k_ (hs_).symm)) (fun hn_ => (Nat.le_trans (below_size (by repeat (first | (with_reducible first | exact HB.out | apply below_alloc | apply pw_below_drewN | apply below_drew1) | exact HB.out))) hn_)))); have n1_ := Aside0.mk (hb); clear HB; clear HO_5; have HO120 := n0_; have HB := n1_; clear n0_ n1_; (try clear hb); (try clear hkp); (try clear ho0)))
                            repeat (go_quiet (first | (go_at_call 32; (with_reducible refine (nat_more.calls (fun k_ => some k_ = (.slice Ao20 x5_2.length co20 : Value).ownBlock) (.slice Ao20 x5_2.length co20) x5_2 x7_3 x8_3 t118 w _ ?side1 ?side2 A17.out).mono ?_); (case side1 => repeat (first | (with_reducible first | exact HB.out | apply below_alloc | apply pw_below_drewN | apply below_drew1) | exact HB.out)); (case side2 => exact Kd.R_tight rfl HO_5.out); rintro e w21 ⟨v119, rfl, ho0, hb, hkp⟩; have n0_ := Aside0.mk (Kd.R_mono (ok' := fun k_ => (w.heap.size ≤ k_)) ho0 (fun k_ hk_ => Or.elim hk_ (fun hs_ => (HO_5.out.1 k_ (hs_).symm)) (fun hn_ => (Nat.le_trans (below_size (by repeat (first | (with_reducible first | exact HB.out | apply below_alloc | apply pw_below_drewN | apply below_drew1) | exact HB.out))) hn_)))); have n1_ := Aside0.mk (hb); clear HB; clear HO_5; have HO120 := n0_; have HB := n1_; clear n0_ n1_; (try clear hb); (try clear hkp); (try clear ho0))); try go_wp2_with (first | (go_at_call 32; (with_reducible refine (nat_more.calls (fun k_ => some k_ = (.slice Ao20 x5_2.length co20 : Value).ownBlock) (.slice Ao20 x5_2.length co20) x5_2 x7_3 x8_3 t118 w _ ?side1 ?side2 A17.out).mono ?_); (case side1 => repeat (first | (with_reducible first | exact HB.out | apply below_alloc | apply pw_below_drewN | apply below_drew1) | exact HB.out)); (case side2 => exact Kd.R_tight rfl HO_5.out); rintro e w21 ⟨v119, rfl, ho0, hb, hkp⟩; have n0_ := Aside0.mk (Kd.R_mono (ok' := fun k_ => (w.heap.size ≤ k_)) ho0 (fun k_ hk_ => Or.elim hk_ (fun hs_ => (HO_5.out.1 k_ (hs_).symm)) (fun hn_ => (Nat.le_trans (below_size (by repeat (first | (with_reducible first | exact HB.out | apply below_alloc | apply pw_below_drewN | apply below_drew1) | exact HB.out))) hn_)))); have n1_ := Aside0.mk (hb); clear HB; clear HO_5; have HO120 := n0_; have HB := n1_; clear n0_ n1_; (try clear hb); (try clear hkp); (try clear ho0))))
                            go_roundg k3
                            case measure => have := HK1.out; have := HK2.out; have := HK3.out; omega
                            case rel => exact ⟨(x0_2.extract (ji12 : Int).toNat x0_2.size), (t118), (by first | rfl | (simp; done) | (simp only [← hji12] <;> (first | rfl | simp)) | (simp [*]; done)), H', ⟨by have := HK1.out; have := HK2.out; have := HK3.out; omega⟩, ⟨by (with_reducible repeat (first | apply Kd.R_alloc | apply Kd.R_drewN | apply Kd.R_drew)); exact HO120.out⟩, ⟨by repeat (first | (with_reducible first | exact HB.out | apply below_alloc | apply pw_below_drewN | apply below_drew1) | exact HB.out)⟩⟩
                          · rw [if_neg c19] at H
                            exact absurd H (by simp)
                        · rw [if_neg c18] at H
                          exact absurd H (by simp)
                · rw [if_neg c11] at H
                  have c11b0 : decide (0 < (x0_2.size : Int)) = false := decide_eq_false c11
                  have c11b1 : decide (0 < x0_2.size) = false := decide_eq_false (by omega)
                  clear c11
                  replace H := Option.bind_eq_some_iff.mp H
                  obtain ⟨⟨t114, t117⟩, A220, H⟩ := H
                  replace H : (some (t114, t117)) = some (r1, r2) := H
                  have A22 := Aside0.mk A220
                  clear A220
                  simp only [Option.some.injEq, Prod.mk.injEq] at H
                  obtain ⟨rfl, rfl⟩ := H
                  obtain ⟨Ao23, co23, eo23⟩ := Kd.R_slice HO_5.out
                  subst eo23
                  go_wp2_with (first | (go_at_call 33; (with_reducible refine (nat_fits.calls k2 (fun k_ => some k_ = (.slice Ao23 x5_2.length co23 : Value).ownBlock) _ _ x5_2 t114 t117 _ ?side1 A22.out).mono ?_); (case side1 => exact Kd.R_V (Kd.R_tight rfl (HO_5.out))); rintro e w24 ⟨v115, rfl, ho0, hb⟩; have n0_ := Aside0.mk (Kd.R_below (by (with_reducible repeat (first | apply Kd.R_alloc | apply Kd.R_drewN | apply Kd.R_drew)); exact HO_5.out) hb); have n1_ := Aside0.mk (Kd.V_lower (Kd.V_mono (ok' := fun k_ => (w.heap.size ≤ k_)) ho0 (fun k_ hk_ => Or.elim hk_ (fun hs_ => ((HO_5.out).1 k_ hs_.symm)) (fun hn_ => (Nat.le_trans (below_size (by repeat (first | (with_reducible first | exact HB.out | apply below_alloc | apply pw_below_drewN | apply below_drew1) | exact HB.out))) hn_)))) (below_size (by repeat (first | (with_reducible first | exact HB.out | apply below_alloc | apply pw_below_drewN | apply below_drew1) | exact HB.out)))); have n2_ := Aside0.mk (below_step (by repeat (first | (with_reducible first | exact HB.out | apply below_alloc | apply pw_below_drewN | apply below_drew1) | exact HB.out)) hb); clear HO_5; clear HB; have HO_5 := n0_; have HO116 := n1_; have HB := n2_; clear n0_ n1_ n2_; (try clear hb); (try clear hb2); (try clear hk); (try clear hi); (try clear ho0)))
                  repeat (go_quiet (first | (go_at_call 33; (with_reducible refine (nat_fits.calls k2 (fun k_ => some k_ = (.slice Ao23 x5_2.length co23 : Value).ownBlock) _ _ x5_2 t114 t117 _ ?side1 A22.out).mono ?_); (case side1 => exact Kd.R_V (Kd.R_tight rfl (HO_5.out))); rintro e w24 ⟨v115, rfl, ho0, hb⟩; have n0_ := Aside0.mk (Kd.R_below (by (with_reducible repeat (first | apply Kd.R_alloc | apply Kd.R_drewN | apply Kd.R_drew)); exact HO_5.out) hb); have n1_ := Aside0.mk (Kd.V_lower (Kd.V_mono (ok' := fun k_ => (w.heap.size ≤ k_)) ho0 (fun k_ hk_ => Or.elim hk_ (fun hs_ => ((HO_5.out).1 k_ hs_.symm)) (fun hn_ => (Nat.le_trans (below_size (by repeat (first | (with_reducible first | exact HB.out | apply below_alloc | apply pw_below_drewN | apply below_drew1) | exact HB.out))) hn_)))) (below_size (by repeat (first | (with_reducible first | exact HB.out | apply below_alloc | apply pw_below_drewN | apply below_drew1) | exact HB.out)))); have n2_ := Aside0.mk (below_step (by repeat (first | (with_reducible first | exact HB.out | apply below_alloc | apply pw_below_drewN | apply below_drew1) | exact HB.out)) hb); clear HO_5; clear HB; have HO_5 := n0_; have HO116 := n1_; have HB := n2_; clear n0_ n1_ n2_; (try clear hb); (try clear hb2); (try clear hk); (try clear hi); (try clear ho0))); try go_wp2_with (first | (go_at_call 33; (with_reducible refine (nat_fits.calls k2 (fun k_ => some k_ = (.slice Ao23 x5_2.length co23 : Value).ownBlock) _ _ x5_2 t114 t117 _ ?side1 A22.out).mono ?_); (case side1 => exact Kd.R_V (Kd.R_tight rfl (HO_5.out))); rintro e w24 ⟨v115, rfl, ho0, hb⟩; have n0_ := Aside0.mk (Kd.R_below (by (with_reducible repeat (first | apply Kd.R_alloc | apply Kd.R_drewN | apply Kd.R_drew)); exact HO_5.out) hb); have n1_ := Aside0.mk (Kd.V_lower (Kd.V_mono (ok' := fun k_ => (w.heap.size ≤ k_)) ho0 (fun k_ hk_ => Or.elim hk_ (fun hs_ => ((HO_5.out).1 k_ hs_.symm)) (fun hn_ => (Nat.le_trans (below_size (by repeat (first | (with_reducible first | exact HB.out | apply below_alloc | apply pw_below_drewN | apply below_drew1) | exact HB.out))) hn_)))) (below_size (by repeat (first | (with_reducible first | exact HB.out | apply below_alloc | apply pw_below_drewN | apply below_drew1) | exact HB.out)))); have n2_ := Aside0.mk (below_step (by repeat (first | (with_reducible first | exact HB.out | apply below_alloc | apply pw_below_drewN | apply below_drew1) | exact HB.out)) hb); clear HO_5; clear HB; have HO_5 := n0_; have HO116 := n1_; have HB := n2_; clear n0_ n1_ n2_; (try clear hb); (try clear hb2); (try clear hk); (try clear hi); (try clear ho0))))
                  go_ret2
                  exact ⟨_, by first | rfl | (simp [errW_none, errW_some] <;> rfl) | (simp [*, errW_none, errW_some] <;> rfl), by (with_reducible repeat (first | apply Kd.V_alloc | apply Kd.V_drewN | apply Kd.V_drew)); exact HO116.out, by repeat (first | (with_reducible first | exact HB.out | apply below_alloc | apply pw_below_drewN | apply below_drew1) | exact HB.out)⟩

end Go.Proofs.YtkihjfpfocnneaaDoor.PNat

namespace Go.Proofs.YtkihjfpfocnneaaDoor.PNat
open Go.RowKit Go.Proofs.YtkihjfpfocnneaaDoorW.PrintWords Go.Proofs.YtkihjfpfocnneaaDoorW.PrintLast Go.Proofs.YtkihjfpfocnneaaDoorW.PrintMore
attribute [local go_sem] max2_int min2_int max_two min_two max_three min_three max_four min_four   -- for this text's walks alone
set_option linter.unusedVariables false
set_option linter.unusedSimpArgs false

/-! ### bobbinlaw2_same: function 12 -/
def bobbinlaw2_same.l0 : Nat → List Int → List Int → Int → Option (Bool)
  | 0, _, _, _ => none
  | k + 1, x0, x1, x5 => if x5 < (x0.length : Int) then (if 0 ≤ x5 then (if x5 < (x1.length : Int) then (if (rd x0 x5) = (rd x1 x5) then (bobbinlaw2_same.l0 k x0 x1 (wrap64 (x5 + 1))) else (some false)) else (none)) else (none)) else (some true)
def bobbinlaw2_same.f (k : Nat) (l0 : List Int) (l1 : List Int) : Option (Bool) := if (l0.length : Int) = (l1.length : Int) then (bobbinlaw2_same.l0 k l0 l1 0) else (some false)
theorem bobbinlaw2_same.mono_l : ∀ k, (∀ y0 y1 y2, LeO (bobbinlaw2_same.l0 k y0 y1 y2) (bobbinlaw2_same.l0 (k + 1) y0 y1 y2))
  | 0 => fun _ _ _ r h => by simp [bobbinlaw2_same.l0] at h
  | k + 1 => by
    have ih0 := bobbinlaw2_same.mono_l k
    · intro y0 y1 y2
      unfold bobbinlaw2_same.l0
      repeat' first
      | (with_reducible exact ih0 _ _ _)
      | (with_reducible exact LeO.refl _)
      | (with_reducible exact LeO.none _)
      | (with_reducible refine LeO.ite ?_ ?_)
      | (with_reducible refine LeO.bind ?_ (fun _ => ?_))
      | exact ih0 _ _ _
      | exact LeO.none _
      | refine LeO.ite ?_ ?_
      | refine LeO.bind ?_ (fun _ => ?_)
theorem bobbinlaw2_same.mono : ∀ a0 a1 k, LeO (bobbinlaw2_same.f k a0 a1) (bobbinlaw2_same.f (k + 1) a0 a1) := by
  intro a0 a1 k
  have ih0 := bobbinlaw2_same.mono_l k
  unfold bobbinlaw2_same.f
  repeat' first
      | (with_reducible exact ih0 _ _ _)
      | (with_reducible exact LeO.refl _)
      | (with_reducible exact LeO.none _)
      | (with_reducible refine LeO.ite ?_ ?_)
      | (with_reducible refine LeO.bind ?_ (fun _ => ?_))
      | exact ih0 _ _ _
      | exact LeO.none _
      | refine LeO.ite ?_ ?_
      | refine LeO.bind ?_ (fun _ => ?_)
set_option maxHeartbeats 8000000 in
set_option maxRecDepth 100000 in
theorem bobbinlaw2_same.calls (k : Nat) (A0 : Option Addr) (c0 : Nat) (l0 : List Int) (A1 : Option Addr) (c1 : Nat) (l1 : List Int) (r : Bool) (w : World) (hr0 : Kd.C (Kd.int .u32) w A0 l0.length l0) (hc0 : l0.length ≤ c0) (hr1 : Kd.C (Kd.int .u32) w A1 l1.length l1) (hc1 : l1.length ≤ c1) (h : bobbinlaw2_same.f k l0 l1 = some r) :
    Calls Tryd.prog 12 #[.slice A0 l0.length c0, .slice A1 l1.length c1] w fun e w' => e = .returned (.bool r) ∧ Drawn0 w w' := by
  have HR0 := Aside0.mk hr0
  have HC0 := Aside0.mk hc0
  clear hr0 hc0
  have HR1 := Aside0.mk hr1
  have HC1 := Aside0.mk hc1
  clear hr1 hc1
  have H : (if (l0.length : Int) = (l1.length : Int) then (bobbinlaw2_same.l0 k l0 l1 0) else (some false)) = some r := h
  clear h
  by_cases c3 : (l0.length : Int) = (l1.length : Int)
  · rw [if_pos c3] at H
    have c3b0 : ((l0.length : Int) == (l1.length : Int)) = true := beq_iff_eq.mpr c3
    have c3b1 : ((l0.length : Int) != (l1.length : Int)) = false := bne_eq_false_iff_eq.mpr c3
    have c3b2 : (l0.length == l1.length) = true := by first | simpa using c3 | (simp at c3 ⊢; omega)
    clear c3
    have H' := Aside0.mk H
    clear H
    go_enter Tryd.func12, Tryd.ntmps12
    go_wp2
    repeat (go_quiet (fail); try go_wp2)
    go_loopg [5] k (fun kq v5 w' => ∃ (x5_1 : Int), v5 = .int .i64 x5_1 ∧ Aside0 (bobbinlaw2_same.l0 kq l0 l1 x5_1 = some r) ∧ Aside0 (kq ≤ k) ∧ Drawn0 w w')
    case atStart => exact ⟨(0), (by first | rfl | (simp; done) | (simp [*]; done)), H', ⟨Nat.le_refl _⟩, by repeat (first | exact Drawn0.refl _ | apply Drawn0.step)⟩
    case round =>
      clear H'
      try clear c1
      try clear p2
      try clear c3
      try clear c3b0
      try clear c3b1
      try clear c3b2
      obtain ⟨x5_1, rfl, HA, HK1, ⟨m1, rfl⟩⟩ := hrel
      cases gk with
      | zero => exact absurd HA.out (by simp [bobbinlaw2_same.l0])
      | succ k1 =>
        have H := HA.out
        clear HA
        simp only [bobbinlaw2_same.l0] at H
        by_cases c4 : x5_1 < (l0.length : Int)
        · rw [if_pos c4] at H
          have c4b0 : decide (x5_1 < (l0.length : Int)) = true := decide_eq_true c4
          clear c4
          by_cases c5 : 0 ≤ x5_1
          · rw [if_pos c5] at H
            have c5b0 : decide (0 ≤ x5_1) = true := decide_eq_true c5
            clear c5
            by_cases c6 : x5_1 < (l1.length : Int)
            · rw [if_pos c6] at H
              have c6b0 : decide (x5_1 < (l1.length : Int)) = true := decide_eq_true c6
              clear c6
              by_cases c7 : (rd l0 x5_1) = (rd l1 x5_1)
              · rw [if_pos c7] at H
                have c7b0 : ((rd l0 x5_1) == (rd l1 x5_1)) = true := beq_iff_eq.mpr c7
                have c7b1 : ((rd l0 x5_1) != (rd l1 x5_1)) = false := bne_eq_false_iff_eq.mpr c7
                clear c7
                have H' := Aside0.mk H
                clear H
                have p121 : 0 ≤ (x5_1 : Int) := of_decide_eq_true (by first | (with_reducible assumption) | assumption)
                have q121 : x5_1 < (l0.length : Int) := of_decide_eq_true (by first | (with_reducible assumption) | assumption)
                obtain ⟨ad121, e121, hx121_0⟩ := Kd.at_int HR0.out x5_1 p121 q121
                cases e121
                replace p121 := eq_true p121
                replace q121 := eq_true q121
                have p122 : 0 ≤ (x5_1 : Int) := of_decide_eq_true (by first | (with_reducible assumption) | assumption)
                have q122 : x5_1 < (l1.length : Int) := of_decide_eq_true (by first | (with_reducible assumption) | assumption)
                obtain ⟨ad122, e122, hx122_0⟩ := Kd.at_int HR1.out x5_1 p122 q122
                cases e122
                replace p122 := eq_true p122
                replace q122 := eq_true q122
                go_wp2
                repeat (go_quiet (fail); try go_wp2)
                go_roundg k1
                case measure => have := HK1.out; omega
                case rel => exact ⟨(wrap64 (x5_1 + 1)), (by first | rfl | (simp; done) | (simp [*]; done)), H', ⟨by have := HK1.out; omega⟩, by repeat (first | exact Drawn0.refl _ | apply Drawn0.step)⟩
              · rw [if_neg c7] at H
                have c7b0 : ((rd l0 x5_1) == (rd l1 x5_1)) = false := beq_eq_false_iff_ne.mpr c7
                have c7b1 : ((rd l0 x5_1) != (rd l1 x5_1)) = true := bne_iff_ne.mpr c7
                obtain rfl := Option.some.inj H
                have p121 : 0 ≤ (x5_1 : Int) := of_decide_eq_true (by first | (with_reducible assumption) | assumption)
                have q121 : x5_1 < (l0.length : Int) := of_decide_eq_true (by first | (with_reducible assumption) | assumption)
                obtain ⟨ad121, e121, hx121_0⟩ := Kd.at_int HR0.out x5_1 p121 q121
                cases e121
                replace p121 := eq_true p121
                replace q121 := eq_true q121
                have p122 : 0 ≤ (x5_1 : Int) := of_decide_eq_true (by first | (with_reducible assumption) | assumption)
                have q122 : x5_1 < (l1.length : Int) := of_decide_eq_true (by first | (with_reducible assumption) | assumption)
                obtain ⟨ad122, e122, hx122_0⟩ := Kd.at_int HR1.out x5_1 p122 q122
                cases e122
                replace p122 := eq_true p122
                replace q122 := eq_true q122
                go_wp2
                repeat (go_quiet (fail); try go_wp2)
                go_ret
                exact ⟨by first | rfl | (simp; done) | (simp [*]; done), by repeat (first | exact Drawn0.refl _ | apply Drawn0.step)⟩
            · rw [if_neg c6] at H
              exact absurd H (by simp)
          · rw [if_neg c5] at H
            exact absurd H (by simp)
        · rw [if_neg c4] at H
          have c4b0 : decide (x5_1 < (l0.length : Int)) = false := decide_eq_false c4
          clear c4
          obtain rfl := Option.some.inj H
          go_wp2
          repeat (go_quiet (fail); try go_wp2)
          go_ret
          exact ⟨by first | rfl | (simp; done) | (simp [*]; done), by repeat (first | exact Drawn0.refl _ | apply Drawn0.step)⟩
  · rw [if_neg c3] at H
    have c3b0 : ((l0.length : Int) == (l1.length : Int)) = false := beq_eq_false_iff_ne.mpr c3
    have c3b1 : ((l0.length : Int) != (l1.length : Int)) = true := bne_iff_ne.mpr c3
    have c3b2 : (l0.length == l1.length) = false := by first | simpa using c3 | (simp at c3 ⊢; omega)
    obtain rfl := Option.some.inj H
    go_enter Tryd.func12, Tryd.ntmps12
    go_wp2
    repeat (go_quiet (fail); try go_wp2)
    go_ret
    exact ⟨by first | rfl | (simp; done) | (simp [*]; done), by repeat (first | exact Drawn0.refl _ | apply Drawn0.step)⟩

end Go.Proofs.YtkihjfpfocnneaaDoor.PNat

namespace Go.Proofs.YtkihjfpfocnneaaDoor.PNat
open Go.RowKit Go.Proofs.YtkihjfpfocnneaaDoorW.PrintWords Go.Proofs.YtkihjfpfocnneaaDoorW.PrintLast Go.Proofs.YtkihjfpfocnneaaDoorW.PrintMore
attribute [local go_sem] max2_int min2_int max_two min_two max_three min_three max_four min_four   -- for this text's walks alone
set_option linter.unusedVariables false
set_option linter.unusedSimpArgs false

/-! ### slices_Clone_uint32_uint32: function 47 -/
def slices_Clone_uint32_uint32.f (l0 : List Int) : Option (List Int) := if l0.length < 35184372088832 then some l0 else none
set_option maxRecDepth 100000 in
set_option maxHeartbeats 1000000 in
theorem slices_Clone_uint32_uint32.calls (A0 : Option Addr) (c0 : Nat) (l0 : List Int) (r : List Int) (w : World) (hr0 : Kd.C (Kd.int .u32) w A0 l0.length l0) (hc0 : l0.length ≤ c0) (h : slices_Clone_uint32_uint32.f l0 = some r) :
    Calls Tryd.prog 47 #[.slice A0 l0.length c0] w fun e w' => ∃ v0_ : Value, e = .returned (v0_) ∧ Kd.R (Kd.int .u32) 38 w' w.heap.size (fun _ => True) v0_ r ∧ Below w.heap.size w w' := by
  unfold slices_Clone_uint32_uint32.f at h
  by_cases hl : l0.length < 35184372088832
  · rw [if_pos hl] at h
    obtain rfl := Option.some.inj h
    have HL := Aside0.mk hl
    have HR0 := Aside0.mk hr0
    have HC0 := Aside0.mk hc0
    clear h hl hr0 hc0
    cases A0 with
    | none =>
      have hl0 : l0 = [] := by
        have h3 := HR0.out.2.2
        cases l0 with
        | nil => rfl
        | cons a l => obtain ⟨ad, e, _⟩ := h3 (by simp); exact absurd e (by simp)
      subst hl0
      have he := fun w => Lib.run_eql_slice_nil (P := Tryd.prog) w 23 38 none 0 c0 0 0 Tryd.underlying23
      go_enter Tryd.func47, Tryd.ntmps47
      go_wp2
      go_ret
      exact ⟨_, rfl, Kd.R_nil _ _ _ _ _, Below.refl _ _⟩
    | some ad =>
      have he := fun w => Lib.run_eql_slice_nil (P := Tryd.prog) w 23 38 (some ad) l0.length c0 0 0 Tryd.underlying23
      have hR0 : Aside0 (Kd.R (Kd.int .u32) 38 (w.alloc (.cells #[] 38)) w.heap.size (fun _ => True) (.slice (some ⟨w.heap.size, 0, none⟩) 0 0) []) := ⟨⟨fun _ _ => trivial, [], World.ownsRow_lit (base := w.heap.size) (e := 38) (size := 1) w #[] 0 (Nat.le_refl _) (by decide) (by simp), by exact Reps.none _ _⟩⟩
      have hB0 : Aside0 (Below w.heap.size w (w.alloc (.cells #[] 38))) := ⟨(Below.refl _ w).alloc (Nat.le_refl _) _⟩
      go_enter Tryd.func47, Tryd.ntmps47
      go_wp2_with (first | ((with_reducible refine gate_builtin (b := .append) (xs := #[.tmp 5, .tmp 6]) rfl ?_); at_builtin; refine Kd.R_append_rows (Kd.int .u32) (w0 := w) w.heap.size rfl (.tmp 5) (.tmp 6) 23 38 (.int .u32 0) 4 rfl Tryd.underlying23 info38 rfl (by decide) (by omega) (.slice (some ⟨w.heap.size, 0, none⟩) 0 0) ([] : List Int) l0 _ _ _ (fun _ => True) (fun _ => False) rfl rfl hR0.out ?aR (fun _ _ h => h) (fun _ h => h.elim) (fun _ _ => trivial) hB0.out (by simp) ?aL ?_; (case aR => exact Kd.C_below HR0.out hB0.out); (case aL => have := HL.out; simp; omega); intro v1 w1 ho hb hg hat; have n0_ := Aside0.mk ho; have n1_ := Aside0.mk hb; clear ho hb hg hat))
      go_ret
      exact ⟨_, rfl, by simpa using n0_.out, n1_.out⟩
  · rw [if_neg hl] at h
    exact absurd h (by simp)

end Go.Proofs.YtkihjfpfocnneaaDoor.PNat

namespace Go.Proofs.YtkihjfpfocnneaaDoor.PNat
open Go.RowKit Go.Proofs.YtkihjfpfocnneaaDoorW.PrintWords Go.Proofs.YtkihjfpfocnneaaDoorW.PrintLast Go.Proofs.YtkihjfpfocnneaaDoorW.PrintMore
attribute [local go_sem] max2_int min2_int max_two min_two max_three min_three max_four min_four   -- for this text's walks alone
set_option linter.unusedVariables false
set_option linter.unusedSimpArgs false

/-! ### nat_Norm: function 23 -/
def nat_Norm.f (k : Nat) (l0 : List Int) : Option (List Int) := (nat_trim.f k l0).bind fun t123 => ((slices_Clone_uint32_uint32.f t123).bind fun t126 => (some t126))
theorem nat_Norm.mono : ∀ a0 k, LeO (nat_Norm.f k a0) (nat_Norm.f (k + 1) a0) := by
  intro a0 k
  unfold nat_Norm.f
  repeat' first
      | (with_reducible exact nat_trim.mono _ _)
      | (with_reducible exact LeO.refl _)
      | (with_reducible exact LeO.none _)
      | (with_reducible refine LeO.ite ?_ ?_)
      | (with_reducible refine LeO.bind ?_ (fun _ => ?_))
      | exact nat_trim.mono _ _
      | exact LeO.none _
      | refine LeO.ite ?_ ?_
      | refine LeO.bind ?_ (fun _ => ?_)
set_option maxHeartbeats 8000000 in
set_option maxRecDepth 100000 in
theorem nat_Norm.calls (k : Nat) (A0 : Option Addr) (c0 : Nat) (l0 : List Int) (r : List Int) (w : World) (hr0 : Kd.C (Kd.int .u32) w A0 l0.length l0) (hc0 : l0.length ≤ c0) (h : nat_Norm.f k l0 = some r) :
    Calls Tryd.prog 23 #[.slice A0 l0.length c0] w fun e w' => ∃ v0_ : Value, e = .returned (v0_) ∧ Kd.R (Kd.int .u32) 38 w' w.heap.size (fun _ => True) v0_ r ∧ Below w.heap.size w w' := by
  have HR0 := Aside0.mk hr0
  have HC0 := Aside0.mk hc0
  clear hr0 hc0
  have HB := Aside0.mk (Below.refl w.heap.size w)
  have H : ((nat_trim.f k l0).bind fun t123 => ((slices_Clone_uint32_uint32.f t123).bind fun t126 => (some t126))) = some r := h
  clear h
  replace H := Option.bind_eq_some_iff.mp H
  obtain ⟨t123, A20, H⟩ := H
  replace H : ((slices_Clone_uint32_uint32.f t123).bind fun t126 => (some t126)) = some r := H
  have A2 := Aside0.mk A20
  clear A20
  replace H := Option.bind_eq_some_iff.mp H
  obtain ⟨t126, A30, H⟩ := H
  replace H : (some t126) = some r := H
  have A3 := Aside0.mk A30
  clear A30
  obtain rfl := Option.some.inj H
  go_enter Tryd.func23, Tryd.ntmps23
  go_wp2_with (first | ((with_reducible refine gate_callee (f := 35) rfl ?_); refine goesL_ (some 4) rfl rfl Tryd.func35 (by kernel_rfl) rfl #[.slice A0 l0.length c0] rfl (by (try simp only [List.map_toArray, List.map_cons, List.map_nil]); first | done | rfl | (simp only [List.length_drop, List.length_take]; rfl)) ?_; (with_reducible refine (nat_trim.calls k (fun k_ => k_ < w.heap.size) _ _ l0 t123 _ ?side1 A2.out).mono ?_); (case side1 => exact Kd.V_mk HC0.out (Kd.F_below (Kd.C_F (Kd.heap_int .u32) HR0.out) (by repeat (first | (with_reducible first | exact HB.out | apply below_alloc | apply pw_below_drewN | apply below_drew1) | exact HB.out)))); rintro e w4 ⟨v124, rfl, ho0, hb⟩; refine ⟨_, rfl, ?_⟩; have n0_ := Aside0.mk (Kd.V_lower (Kd.V_mono (ok' := fun k_ => True) ho0 (fun k_ hk_ => trivial)) (below_size (by repeat (first | (with_reducible first | exact HB.out | apply below_alloc | apply pw_below_drewN | apply below_drew1) | exact HB.out)))); have n1_ := Aside0.mk (below_step (by repeat (first | (with_reducible first | exact HB.out | apply below_alloc | apply pw_below_drewN | apply below_drew1) | exact HB.out)) hb); clear HB; have HO125 := n0_; have HB := n1_; clear n0_ n1_; (try clear hb); (try clear hb2); (try clear hk); (try clear hi); (try clear ho0); obtain ⟨Ao5, co5, eo5⟩ := Kd.V_slice HO125.out; subst eo5) | ((with_reducible refine gate_callee (f := 47) rfl ?_); refine goesL_ (some 5) rfl rfl Tryd.func47 (by kernel_rfl) rfl #[.slice Ao5 t123.length co5] rfl (by (try simp only [List.map_toArray, List.map_cons, List.map_nil]); first | done | rfl | (simp only [List.length_drop, List.length_take]; rfl)) ?_; (with_reducible refine (slices_Clone_uint32_uint32.calls _ _ t123 t126 _ ?side1 ?side2 A3.out).mono ?_); (case side1 => repeat (first | exact (Kd.V_reads' HO125.out).2.2 | (with_reducible refine Kd.C_alloc ?_ _) | (with_reducible refine Kd.C_drewN ?_ _) | (with_reducible refine Kd.C_drew ?_))); (case side2 => exact (Kd.V_reads' HO125.out).2.1); rintro e w6 ⟨v127, rfl, ho0, hb⟩; refine ⟨_, rfl, ?_⟩; have n0_ := Aside0.mk (Kd.V_elder' (by (with_reducible repeat (first | apply Kd.V_alloc | apply Kd.V_drewN | apply Kd.V_drew)); exact HO125.out) (Kd.R_base ho0) hb); have n1_ := Aside0.mk (Kd.R_lower ho0 (below_size (by repeat (first | (with_reducible first | exact HB.out | apply below_alloc | apply pw_below_drewN | apply below_drew1) | exact HB.out)))); have n2_ := Aside0.mk (below_step (by repeat (first | (with_reducible first | exact HB.out | apply below_alloc | apply pw_below_drewN | apply below_drew1) | exact HB.out)) hb); clear HO125; clear HB; have HO125 := n0_; have HO128 := n1_; have HB := n2_; clear n0_ n1_ n2_; (try clear hb); (try clear hb2); (try clear hk); (try clear hi); (try clear ho0)))
  go_ret
  exact ⟨_, by first | rfl | (simp [errW_none, errW_some] <;> rfl) | (simp [*, errW_none, errW_some] <;> rfl), by (with_reducible repeat (first | apply Kd.R_alloc | apply Kd.R_drewN | apply Kd.R_drew)); exact HO128.out, by repeat (first | (with_reducible first | exact HB.out | apply below_alloc | apply pw_below_drewN | apply below_drew1) | exact HB.out)⟩

end Go.Proofs.YtkihjfpfocnneaaDoor.PNat

namespace Go.Proofs.YtkihjfpfocnneaaDoor.PNat
open Go.RowKit Go.Proofs.YtkihjfpfocnneaaDoorW.PrintWords Go.Proofs.YtkihjfpfocnneaaDoorW.PrintLast Go.Proofs.YtkihjfpfocnneaaDoorW.PrintMore
attribute [local go_sem] max2_int min2_int max_two min_two max_three min_three max_four min_four   -- for this text's walks alone
set_option linter.unusedVariables false
set_option linter.unusedSimpArgs false

/-! ### bits_Div32: function 34 -/
def bits_Div32.f (a0 a1 a2 : Int) : Option (Int × Int) :=
  if 0 ≤ a0 ∧ a0 < a2 ∧ 0 ≤ a1 ∧ a1 < 4294967296 ∧ a2 < 4294967296 then some ((a0 * 4294967296 + a1) / a2, (a0 * 4294967296 + a1) % a2) else none
set_option maxRecDepth 100000 in
theorem bits_Div32.calls (a0 : Int) (a1 : Int) (a2 : Int) (r1 r2 : Int) (w : World) (h : bits_Div32.f a0 a1 a2 = some (r1, r2)) :
    Calls Tryd.prog 34 #[.int .u32 a0, .int .u32 a1, .int .u32 a2] w fun e w' => e = .returned (.tuple #[.int .u32 r1, .int .u32 r2]) ∧ Drawn0 w w' := by
  unfold bits_Div32.f at h
  by_cases hc : 0 ≤ a0 ∧ a0 < a2 ∧ 0 ≤ a1 ∧ a1 < 4294967296 ∧ a2 < 4294967296
  · rw [if_pos hc] at h
    simp only [Option.some.injEq, Prod.mk.injEq] at h
    have h1 := Aside0.mk h.1
    have h2 := Aside0.mk h.2
    clear h
    obtain ⟨h0, h0', h1', h1'', h2'⟩ := hc
    have h3 : (a2 != 0) = true := by simp; omega
    have h4 : decide (a2 ≤ a0) = false := by simp; omega
    have hor : bits .or .u64 (a0 * 4294967296) a1 = a0 * 4294967296 + a1 := by
      rw [u64_or _ _ (by omega) (by omega) (by omega) (by omega), nat_join 32 _ _ (by omega) (by omega)]
      omega
    have hq0 : 0 ≤ (a0 * 4294967296 + a1) / a2 := Int.ediv_nonneg (by omega) (by omega)
    have hq1 : (a0 * 4294967296 + a1) / a2 < 4294967296 := by
      rw [Int.ediv_lt_iff_lt_mul (by omega)]
      have : (a0 + 1) * 4294967296 ≤ a2 * 4294967296 := Int.mul_le_mul_of_nonneg_right (by omega) (by omega)
      rw [Int.mul_comm 4294967296 a2]
      omega
    have hr0 : 0 ≤ (a0 * 4294967296 + a1) % a2 := Int.emod_nonneg _ (by omega)
    have hr1 : (a0 * 4294967296 + a1) % a2 < a2 := Int.emod_lt_of_pos _ (by omega)
    go_enter Tryd.func34, Tryd.ntmps34
    go_wp2
    go_quiet (fail)
    go_wp2
    go_ret2
    exact ⟨by first | rfl | (rw [← h1.out, ← h2.out]; rfl), by first | exact ⟨_, rfl⟩ | exact ⟨0, rfl⟩⟩
  · rw [if_neg hc] at h
    exact absurd h (by simp)

end Go.Proofs.YtkihjfpfocnneaaDoor.PNat

/- The library contracts that this seat uses, laid over its translation by the shelf's own tool, in plain words. -/
namespace Go.Proofs
open Go.Shelf
def Tryd.lays169_ren : Go.Shelf.Ren := ⟨fun | 169 => 40 | n => n, fun | 70 => 52 | 9 => 9 | 0 => 0 | 72 => 55 | 37 => 53 | 127 => 83 | 3 => 3 | 5 => 5 | n => n, fun | n => n⟩
theorem Tryd.lays169 : Go.Proofs.Lays.n169 Tryd.prog Tryd.lays169_ren := {
  mixed := by kernel_rfl
  f169 := Tryd.func40.trans (congrArg some (by kernel_rfl))
  t0 := Tryd.underlying0
  a0 := Tryd.isAgg0
  z0 := Tryd.sizeOf0
  v0 := Tryd.zeroValue0
  t3 := Tryd.underlying3
  a3 := Tryd.isAgg3
  z3 := Tryd.sizeOf3
  v3 := Tryd.zeroValue3
  t9 := Tryd.underlying9
  a9 := Tryd.isAgg9
  z9 := Tryd.sizeOf9
  v9 := Tryd.zeroValue9
  t37 := Tryd.underlying53
  a37 := Tryd.isAgg53
  z37 := Tryd.sizeOf53
  v37 := Tryd.zeroValue53
  t70 := Tryd.underlying52
  a70 := Tryd.isAgg52
  z70 := Tryd.sizeOf52
  v70 := Tryd.zeroValue52
  t72 := Tryd.underlying55
  a72 := Tryd.isAgg55
  z72 := Tryd.sizeOf55
  v72 := Tryd.zeroValue55
  t127 := Tryd.underlying83
  a127 := Tryd.isAgg83
  z127 := Tryd.sizeOf83
  v127 := Tryd.zeroValue83 }
theorem Tryd.Builder_Extra_169 : Builder.Extra Tryd.prog Tryd.lays169_ren := {
  sizeBuilder := by kernel_rfl
  liesBuilder := by kernel_rfl
  t5 := Tryd.underlying5
  a5 := Tryd.isAgg5
  z5 := Tryd.sizeOf5
  v5 := Tryd.zeroValue5
  infoByte := by kernel_rfl
  cellsByte := by kernel_rfl
  sizeByte := by kernel_rfl
  neB5 := by decide }
def Tryd.lays161_ren : Go.Shelf.Ren := ⟨fun | 161 => 39 | 231 => 56 | 227 => 57 | 233 => 58 | 235 => 59 | 228 => 61 | 197 => 62 | 151 => 63 | 260 => 64 | 152 => 65 | 137 => 66 | 119 => 67 | 224 => 68 | 225 => 69 | 217 => 70 | 266 => 71 | n => n, fun | 9 => 9 | 4 => 4 | 3 => 3 | 5 => 5 | 117 => 79 | 116 => 78 | 0 => 0 | 124 => 82 | 105 => 87 | 21 => 21 | 119 => 91 | 46 => 49 | 139 => 94 | 138 => 93 | n => n, fun | 3 => 1 | 4 => 2 | n => n⟩
theorem Tryd.lays161 : Go.Proofs.Lays.n161 Tryd.prog Tryd.lays161_ren := {
  mixed := by kernel_rfl
  f119 := Tryd.func67.trans (congrArg some (by kernel_rfl))
  f137 := Tryd.func66.trans (congrArg some (by kernel_rfl))
  f151 := Tryd.func63.trans (congrArg some (by kernel_rfl))
  f152 := Tryd.func65.trans (congrArg some (by kernel_rfl))
  f161 := Tryd.func39.trans (congrArg some (by kernel_rfl))
  f197 := Tryd.func62.trans (congrArg some (by kernel_rfl))
  f217 := Tryd.func70.trans (congrArg some (by kernel_rfl))
  f224 := Tryd.func68.trans (congrArg some (by kernel_rfl))
  f225 := Tryd.func69.trans (congrArg some (by kernel_rfl))
  f227 := Tryd.func57.trans (congrArg some (by kernel_rfl))
  f228 := Tryd.func61.trans (congrArg some (by kernel_rfl))
  f231 := Tryd.func56.trans (congrArg some (by kernel_rfl))
  f233 := Tryd.func58.trans (congrArg some (by kernel_rfl))
  f235 := Tryd.func59.trans (congrArg some (by kernel_rfl))
  f260 := Tryd.func64.trans (congrArg some (by kernel_rfl))
  f266 := Tryd.func71.trans (congrArg some (by kernel_rfl))
  t0 := Tryd.underlying0
  a0 := Tryd.isAgg0
  z0 := Tryd.sizeOf0
  v0 := Tryd.zeroValue0
  t3 := Tryd.underlying3
  a3 := Tryd.isAgg3
  z3 := Tryd.sizeOf3
  v3 := Tryd.zeroValue3
  t4 := Tryd.underlying4
  a4 := Tryd.isAgg4
  z4 := Tryd.sizeOf4
  v4 := Tryd.zeroValue4
  t5 := Tryd.underlying5
  a5 := Tryd.isAgg5
  z5 := Tryd.sizeOf5
  v5 := Tryd.zeroValue5
  t9 := Tryd.underlying9
  a9 := Tryd.isAgg9
  z9 := Tryd.sizeOf9
  v9 := Tryd.zeroValue9
  t21 := Tryd.underlying21
  a21 := Tryd.isAgg21
  z21 := Tryd.sizeOf21
  v21 := Tryd.zeroValue21
  t46 := Tryd.underlying49
  a46 := Tryd.isAgg49
  z46 := Tryd.sizeOf49
  v46 := Tryd.zeroValue49
  t105 := Tryd.underlying87
  a105 := Tryd.isAgg87
  z105 := Tryd.sizeOf87
  v105 := Tryd.zeroValue87
  t116 := Tryd.underlying78
  a116 := Tryd.isAgg78
  z116 := Tryd.sizeOf78
  t117 := Tryd.underlying79
  a117 := Tryd.isAgg79
  z117 := Tryd.sizeOf79
  v117 := Tryd.zeroValue79
  t119 := Tryd.underlying91
  a119 := Tryd.isAgg91
  z119 := Tryd.sizeOf91
  t124 := Tryd.underlying82
  a124 := Tryd.isAgg82
  z124 := Tryd.sizeOf82
  v124 := Tryd.zeroValue82
  t138 := Tryd.underlying93
  a138 := Tryd.isAgg93
  z138 := Tryd.sizeOf93
  v138 := Tryd.zeroValue93
  t139 := Tryd.underlying94
  a139 := Tryd.isAgg94
  z139 := Tryd.sizeOf94
  v139 := Tryd.zeroValue94
  g3 := by kernel_rfl
  g4 := by kernel_rfl }
open Go.RowKit in
/-- The library's contract, laid over this program. -/
theorem Tryd.strings_TrimLeft_one (s : ByteArray) (c : UInt8) (hc : c.toNat < 128) (w : World) :
    Calls Tryd.prog 39 #[.string s, .string ⟨#[c]⟩] w fun e w' => e = .returned (.string ⟨(Lib.trimLeftB s.data.toList c).toArray⟩) ∧ w' = w := Any.strings_TrimLeft_one Tryd.lays161 s c hc w
open Go.RowKit in
/-- The library's contract, laid over this program. -/
theorem Tryd.Builder_String_k (B b : Nat) (l : List UInt8) (w : World) (h : Lib.IsBuilderF 55 5 B b (Lib.byteCells l) w) (h0 : l ≠ []) :
    Calls Tryd.prog 40 #[.pointer (some ⟨b, 0, none⟩)] w fun e w' => e = .returned (.string ⟨l.toArray⟩) ∧ (Lib.IsBuilderF 55 5 B b (Lib.byteCells l) w' ∧ Below B w w' ∧ Lib.OthersKept 5 (some b) w w') := Any.Builder_String_k Tryd.lays169 Tryd.Builder_Extra_169 B b l w h h0
end Go.Proofs
