/- Definitions as rows of tokens, in plain lists: what the calls on a pool answer. No program in sight. -/
import Derived.Test.YtneepokiioefgaaGreatDoorProg
namespace Go.Toks
/-- Op, A, B -/
abbrev Tok := Int × Int × Int
/-- tokens in all -/
def cnt : List (List Tok) → Nat
  | [] => 0
  | l :: L => l.length + cnt L
/-- the limits hold -/
structure Fit (L : List (List Tok)) : Prop where
  defs : L.length ≤ 20000
  toks : cnt L ≤ 100000
/-- definition d's tokens -/
def row (L : List (List Tok)) (d : Int) : List Tok := L.getD (d.toNat - 1) []
def isD (L : List (List Tok)) (d : Int) : Bool := decide (1 ≤ d ∧ d ≤ (L.length : Int))
def lenD (L : List (List Tok)) (d : Int) : Int := if isD L d = true then ((row L d).length : Int) else 0
def opnR (L : List (List Tok)) : Int × Int := if 20000 ≤ L.length then (0, 5) else ((L.length : Int) + 1, 0)
def opnL (L : List (List Tok)) : List (List Tok) := if 20000 ≤ L.length then L else L ++ [[]]
def emtR (L : List (List Tok)) (d : Int) : Int × Int := if isD L d = true then (if 100000 ≤ cnt L then (0, 5) else ((row L d).length, 0)) else (0, 1)
def emtL (L : List (List Tok)) (d : Int) (t : Tok) : List (List Tok) := if isD L d = true then (if 100000 ≤ cnt L then L else L.set (d.toNat - 1) (row L d ++ [t])) else L
/-- is there a token -/
def hasT (L : List (List Tok)) (d p : Int) : Bool := decide (0 ≤ p ∧ p < lenD L d)
def tokD (L : List (List Tok)) (d p : Int) : Tok := (row L d).getD p.toNat (0, 0, 0)
def attR (L : List (List Tok)) (d p : Int) : Tok := if hasT L d p = true then tokD L d p else (0, 0, 0)
def patB (L : List (List Tok)) (d p a : Int) : Bool := hasT L d p && decide (0 ≤ a)
def patR (L : List (List Tok)) (d p a : Int) : Int := if patB L d p a = true then 0 else 1
def patL (L : List (List Tok)) (d p a : Int) : List (List Tok) := if patB L d p a = true then L.set (d.toNat - 1) ((row L d).set p.toNat ((tokD L d p).1, a, (tokD L d p).2.2)) else L
def cutB (L : List (List Tok)) (n : Int) : Bool := decide (0 ≤ n ∧ n ≤ (L.length : Int))
def cutR (L : List (List Tok)) (n : Int) : Int := if cutB L n = true then 0 else 1
def cutL (L : List (List Tok)) (n : Int) : List (List Tok) := if cutB L n = true then L.take n.toNat else L

theorem isD_true {L : List (List Tok)} {d : Int} (h1 : 1 ≤ d) (h2 : d ≤ (L.length : Int)) : isD L d = true := decide_eq_true ⟨h1, h2⟩
theorem isD_lo {L : List (List Tok)} {d : Int} (h1 : ¬ 1 ≤ d) : isD L d = false := decide_eq_false (fun h => h1 h.1)
theorem isD_hi {L : List (List Tok)} {d : Int} (h2 : ¬ d ≤ (L.length : Int)) : isD L d = false := decide_eq_false (fun h => h2 h.2)
theorem isD_iff {L : List (List Tok)} {d : Int} : isD L d = true ↔ 1 ≤ d ∧ d ≤ (L.length : Int) := by unfold isD; exact decide_eq_true_iff
theorem cnt_append (L M : List (List Tok)) : cnt (L ++ M) = cnt L + cnt M := by
  induction L with
  | nil => simp [cnt]
  | cons l L ih => simp only [List.cons_append, cnt, ih]; omega
theorem cnt_set (L : List (List Tok)) (i : Nat) (l : List Tok) (h : i < L.length) : cnt (L.set i l) + (L.getD i []).length = cnt L + l.length := by
  induction L generalizing i with
  | nil => simp at h
  | cons m L ih =>
    cases i with
    | zero => simp [cnt]; omega
    | succ i =>
      have := ih i (by simpa using h)
      simp only [List.set_cons_succ, cnt, List.getD_cons_succ]
      omega
theorem cnt_row (L : List (List Tok)) (i : Nat) : (L.getD i []).length ≤ cnt L := by
  induction L generalizing i with
  | nil => simp
  | cons m L ih =>
    cases i with
    | zero => simp [cnt]
    | succ i => have := ih i; simp only [List.getD_cons_succ, cnt]; omega
theorem row_le (L : List (List Tok)) (d : Int) : (row L d).length ≤ cnt L := cnt_row L _
theorem cnt_split (L : List (List Tok)) (n : Nat) : cnt L = cnt (L.take n) + cnt (L.drop n) := by rw [← cnt_append, List.take_append_drop]
theorem cnt_drop (L : List (List Tok)) (n : Nat) (h : n < L.length) : cnt (L.drop n) = (L.getD n []).length + cnt (L.drop (n + 1)) := by
  rw [List.drop_eq_getElem_cons h, cnt, List.getD_eq_getElem?_getD, List.getElem?_eq_getElem h]; rfl
theorem fit_nil : Fit [] := ⟨by simp, by simp [cnt]⟩
theorem fit_opn {L : List (List Tok)} (h : Fit L) : Fit (opnL L) := by
  unfold opnL
  by_cases c : 20000 ≤ L.length
  · rw [if_pos c]; exact h
  · rw [if_neg c]
    exact ⟨by simp; omega, by rw [cnt_append]; simp [cnt]; exact h.toks⟩
theorem fit_emt {L : List (List Tok)} (h : Fit L) (d : Int) (t : Tok) : Fit (emtL L d t) := by
  unfold emtL
  by_cases c : isD L d = true
  · rw [if_pos c]
    by_cases c2 : 100000 ≤ cnt L
    · rw [if_pos c2]; exact h
    · rw [if_neg c2]
      obtain ⟨h1, h2⟩ := isD_iff.1 c
      have := cnt_set L (d.toNat - 1) (row L d ++ [t]) (by omega)
      refine ⟨by rw [List.length_set]; exact h.defs, ?_⟩
      unfold row at this ⊢
      rw [List.length_append, List.length_singleton] at this
      omega
  · rw [if_neg c]; exact h
theorem cnt_set_same {L : List (List Tok)} (i : Nat) {l : List Tok} (hl : l.length = (L.getD i []).length) : cnt (L.set i l) = cnt L := by
  by_cases hi : i < L.length
  · have := cnt_set L i l hi
    omega
  · rw [List.set_eq_of_length_le (by omega)]
theorem cnt_pat (L : List (List Tok)) (d p a : Int) : cnt (patL L d p a) = cnt L := by
  unfold patL
  by_cases c : patB L d p a = true
  · rw [if_pos c]
    exact cnt_set_same _ (by rw [List.length_set]; rfl)
  · rw [if_neg c]
theorem len_pat (L : List (List Tok)) (d p a : Int) : (patL L d p a).length = L.length := by
  unfold patL
  split
  · rw [List.length_set]
  · rfl
theorem fit_pat {L : List (List Tok)} (h : Fit L) (d p a : Int) : Fit (patL L d p a) := ⟨by rw [len_pat]; exact h.defs, by rw [cnt_pat]; exact h.toks⟩
theorem fit_cut {L : List (List Tok)} (h : Fit L) (n : Int) : Fit (cutL L n) := by
  unfold cutL
  by_cases c : cutB L n = true
  · rw [if_pos c]
    exact ⟨by rw [List.length_take]; have := h.defs; omega, by have := cnt_split L n.toNat; have := h.toks; omega⟩
  · rw [if_neg c]; exact h
end Go.Toks
