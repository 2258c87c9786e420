/- Any token is shown right, and known for a jump or none: the law TokensShow answers true at every token and every name that its row admits. This is part 2 of 6: what the session's printing program wrote for the functions reached, and the session's own lemmas. -/
import Derived.ArgAppend
import Derived.Below
import Derived.BigQuiet
import Derived.ChangeAlike
import Derived.ChangeOld
import Derived.ChangeSlices
import Derived.Deep.AppendLies
import Derived.Deep.CutBlock
import Derived.Deep.DeepCutAuto
import Derived.Deep.Draws
import Derived.Deep.LoopGhost
import Derived.Deep.OwnRows
import Derived.Deep.QuietTactic
import Derived.Deep.RegionHeld3
import Derived.Deep.RegionLaw
import Derived.Deep.RegionLawGrows
import Derived.Ground.SlgnProg
import Derived.KernelRfl
import Derived.LaidOnce
import Derived.Laws.BitsAllLaws
import Derived.Laws.BitsLemmas
import Derived.Laws.BytesArg
import Derived.Laws.CopyOwn
import Derived.Laws.IdiomCopy
import Derived.Laws.MakeOwn
import Derived.Laws.OwnMore
import Derived.Laws.Pointers
import Derived.Laws.Rows
import Derived.Laws.Slices
import Derived.Laws.StructEq
import Derived.Lay
import Derived.Lib.AppendIntMem
import Derived.Lib.AppendStr
import Derived.Lib.Builder
import Derived.Lib.ConvBytes
import Derived.Lib.IndexBytes
import Derived.Lib.ItoaLen
import Derived.Lib.ItoaNum
import Derived.Lib.Join
import Derived.Lib.SliceRun
import Derived.Lib.Strings
import Derived.LoopIn
import Derived.LoopNIn
import Derived.Maps.AppendAt
import Derived.OpenShut
import Derived.OrdersHeld
import Derived.Outline
import Derived.OwnWalk
import Derived.OwnWalkIn
import Derived.ProofKit
import Derived.RangeFuncBound
import Derived.RangeFuncBox
import Derived.RangeFuncCalls
import Derived.RangeFuncLeaves
import Derived.RangeFuncNested
import Derived.RegionTactic
import Derived.RowKit
import Derived.RowKit3
import Derived.SevenTiedAt
import Derived.Shelf.Abstract
import Derived.Shelf.Small.Bits
import Derived.Shelf.Strconv.Itoa3
import Derived.Shelf.Strings.Builder1
import Derived.Shelf.Strings.BuilderK
import Derived.Shelf.Strings.OnBuilder
import Derived.Shelf.Strings.Repeat
import Derived.Shelf.Strings.Trim
import Derived.ShutString
import Derived.SizedLaws
import Derived.StillTactics
import Derived.Tactics
import Derived.Tactics2
import Derived.TacticsInMore
import Derived.WalkKit
import Derived.WalkSpells
import Derived.WideLaws
import Derived.Test.YtneepokiioefgaaGreatDoorProg
import Derived.Test.YtneepokiioefgaaGreatDoorShw1
set_option maxHeartbeats 32000000
set_option linter.unusedVariables false
set_option linter.unusedSimpArgs false
namespace Go.RowKit
end Go.RowKit
namespace Go.Toks
/-- Op, A, B -/
abbrev Tok3 := Int × Int × Int
/-- tokens in all -/
def cnt : List (List Tok3) → Nat
 | [] => 0
 | l :: L => l.length + cnt L
/-- the limits hold -/
structure Fit (L : List (List Tok3)) : Prop where
 defs : L.length ≤ 20000
 toks : cnt L ≤ 100000
/-- definition d's tokens -/
def row (L : List (List Tok3)) (d : Int) : List Tok3 := L.getD (d.toNat - 1) []
def isD (L : List (List Tok3)) (d : Int) : Bool := decide (1 ≤ d ∧ d ≤ (L.length : Int))
def opnR (L : List (List Tok3)) : Int × Int := if 20000 ≤ L.length then (0, 5) else ((L.length : Int) + 1, 0)
def opnL (L : List (List Tok3)) : List (List Tok3) := if 20000 ≤ L.length then L else L ++ [[]]
def emtR (L : List (List Tok3)) (d : Int) : Int × Int := if isD L d = true then (if 100000 ≤ cnt L then (0, 5) else ((row L d).length, 0)) else (0, 1)
def emtL (L : List (List Tok3)) (d : Int) (t : Tok3) : List (List Tok3) := if isD L d = true then (if 100000 ≤ cnt L then L else L.set (d.toNat - 1) (row L d ++ [t])) else L
theorem isD_true {L : List (List Tok3)} {d : Int} (h1 : 1 ≤ d) (h2 : d ≤ (L.length : Int)) : isD L d = true := decide_eq_true ⟨h1, h2⟩
theorem isD_lo {L : List (List Tok3)} {d : Int} (h1 : ¬ 1 ≤ d) : isD L d = false := decide_eq_false (fun h => h1 h.1)
theorem isD_hi {L : List (List Tok3)} {d : Int} (h2 : ¬ d ≤ (L.length : Int)) : isD L d = false := decide_eq_false (fun h => h2 h.2)
theorem isD_iff {L : List (List Tok3)} {d : Int} : isD L d = true ↔ 1 ≤ d ∧ d ≤ (L.length : Int) := by unfold isD; exact decide_eq_true_iff
theorem cnt_append (L M : List (List Tok3)) : cnt (L ++ M) = cnt L + cnt M := by
 induction L with
 | nil => simp [cnt]
 | cons l L ih => simp only [List.cons_append, cnt, ih]; omega
theorem cnt_set (L : List (List Tok3)) (i : Nat) (l : List Tok3) (h : i < L.length) : cnt (L.set i l) + (L.getD i []).length = cnt L + l.length := by
 induction L generalizing i with
 | nil => simp at h
 | cons m L ih =>
  cases i with
  | zero => simp [cnt]; omega
  | succ i =>
   have := ih i (by simpa using h)
   simp only [List.set_cons_succ, cnt, List.getD_cons_succ]
   omega
theorem cnt_row (L : List (List Tok3)) (i : Nat) : (L.getD i []).length ≤ cnt L := by
 induction L generalizing i with
 | nil => simp
 | cons m L ih =>
  cases i with
  | zero => simp [cnt]
  | succ i => have := ih i; simp only [List.getD_cons_succ, cnt]; omega
theorem fit_nil : Fit [] := ⟨by simp, by simp [cnt]⟩
theorem fit_opn {L : List (List Tok3)} (h : Fit L) : Fit (opnL L) := by
 unfold opnL
 by_cases c : 20000 ≤ L.length
 ·rw [if_pos c]; exact h
 ·rw [if_neg c]
  exact ⟨by simp; omega, by rw [cnt_append]; simp [cnt]; exact h.toks⟩
theorem fit_emt {L : List (List Tok3)} (h : Fit L) (d : Int) (t : Tok3) : Fit (emtL L d t) := by
 unfold emtL
 by_cases c : isD L d = true
 ·rw [if_pos c]
  by_cases c2 : 100000 ≤ cnt L
  ·rw [if_pos c2]; exact h
  ·rw [if_neg c2]
   obtain ⟨h1, h2⟩ := isD_iff.1 c
   have := cnt_set L (d.toNat - 1) (row L d ++ [t]) (by omega)
   refine ⟨by rw [List.length_set]; exact h.defs, ?_⟩
   unfold row at this ⊢
   rw [List.length_append, List.length_singleton] at this
   omega
 ·rw [if_neg c]; exact h
end Go.Toks
namespace Go.Proofs.YtneepokiioefgaaGreatDoor.Pools
open Go.RowKit Go.Toks Go.Proofs.YtneepokiioefgaaGreatDoorW.PrintWords Go.Proofs.YtneepokiioefgaaGreatDoorW.PrintLast Go.Proofs.YtneepokiioefgaaGreatDoorW.PrintMore
theorem info63 : (Tryz.prog.info? 63).map (fun i => (i.zero, i.size, i.bytes)) = some (some (.slice none 0 0), 1, 24) := by kernel_rfl
theorem info23 : (Tryz.prog.info? 23).map (fun i => (i.zero, i.size, i.bytes)) = some (some (.agg #[.int .i64 0, .int .i64 0, .int .i64 0]), 3, 24) := by kernel_rfl
/-- a token's cells -/
def tk : Kd Tok3 := Kd.pair (Kd.int .i64) (Kd.pair (Kd.int .i64) (Kd.int .i64))
/-- a row of tokens, by its slice -/
def rk : Kd (List Tok3) := Kd.slice 23 tk
/-- A pool: block g (of type T) holds the row of definitions and the count; no two definitions share memory; all blocks are among ok. -/
structure PoolAt (T : Nat) (w : World) (base : Nat) (ok : Nat → Prop) (g : Nat) (L : List (List Tok3)) : Prop where
 mk ::
 fit : Fit L
 okg : ok g
 low : base ≤ g
 at_ : ∃ A c, w.heap[g]? = some (.cells #[.slice A L.length c, .int .i64 (cnt L)] T (0, 0)) ∧ Kd.S rk 63 w base (fun k => ok k ∧ k ≠ g) (.slice A L.length c) L
theorem is_any (T : Nat) (w : World) (base : Nat) (ok : Nat → Prop) (g : Nat) (L : List (List Tok3)) (d : Int) (H : PoolAt T w base ok g L) :
  Calls Tryz.prog 30 #[.pointer (some ⟨g, 0, none⟩), .int .i64 d] w fun e w' => e = .returned (.bool (isD L d)) ∧ w = w' := by
 obtain ⟨hf, -, -, A, c, hb, -⟩ := H
 have hc0 : w.cell? ⟨g, 0, none⟩ = some (.slice A L.length c) := by rw [blk_cell hb]; rfl
 clear hb
 by_cases h1 : 1 ≤ d
 ·by_cases h2 : d ≤ (L.length : Int)
  ·have HE := Aside0.mk (isD_true h1 h2)
   go_enter Tryz.func30, Tryz.ntmps30
   go_wp2
   go_ret
   exact ⟨by rw [HE.out]; rfl, rfl⟩
  ·have HE := Aside0.mk (isD_hi h2)
   go_enter Tryz.func30, Tryz.ntmps30
   go_wp2
   go_ret
   exact ⟨by rw [HE.out]; rfl, rfl⟩
 ·have HE := Aside0.mk (isD_lo (L := L) h1)
  go_enter Tryz.func30, Tryz.ntmps30
  go_wp2
  go_ret
  exact ⟨by rw [HE.out]; rfl, rfl⟩
/-- definition d's cell, and its row -/
theorem PoolAt.row_at {T : Nat} {w : World} {base : Nat} {ok : Nat → Prop} {g : Nat} {L : List (List Tok3)} {d : Int} (H : PoolAt T w base ok g L) (h1 : 1 ≤ d) (h2 : d ≤ (L.length : Int)) :
  ∃ gd c A' c', w.heap[g]? = some (.cells #[.slice (some ⟨gd, 0, none⟩) L.length c, .int .i64 (cnt L)] T (0, 0)) ∧ w.cell? ⟨gd, d.toNat - 1, none⟩ = some (.slice A' (row L d).length c') ∧
   w.frozen? ⟨gd, d.toNat - 1, none⟩ = false ∧ Kd.R tk 23 w base (fun _ => True) (.slice A' (row L d).length c') (row L d) := by
 obtain ⟨hf, -, -, A, c, hb, hS⟩ := H
 obtain ⟨gd, cap, he, -, -, -⟩ := Kd.S_form hS (by omega)
 injection he with e1 e2 e3
 subst e1
 obtain ⟨oki, cs, hcl, hM, hcc, hfr, hoki, hH⟩ := Kd.S_elem hS [] (d - 1) (by omega) (by omega)
 obtain ⟨v, rfl, hR⟩ := hM
 obtain ⟨A', c', rfl⟩ := Kd.R_slice hR
 have h3 := hcc 0 _ rfl
 have h4 := hfr 0
 simp only [show rk.sz = 1 from rfl, Nat.mul_one, Nat.add_zero] at h3 h4
 rw [show (d - 1).toNat = d.toNat - 1 by omega] at h3 h4 hR
 exact ⟨gd, c, A', c', hb, h3, h4, Kd.R_mono hR (fun _ _ => trivial)⟩
theorem PoolAt.put0 {T : Nat} {w : World} {base : Nat} {ok : Nat → Prop} {g : Nat} {L : List (List Tok3)} {x : Value} {n : Nat} {A : Option Addr} {c : Nat} (hf : Fit L) (hok : ok g) (hlow : base ≤ g) (hn : n = cnt L)
  (hb : w.heap[g]? = some (.cells #[x, .int .i64 n] T (0, 0))) (hS : Kd.S rk 63 w base (fun k => ok k ∧ k ≠ g) (.slice A L.length c) L) : PoolAt T (w.setCell ⟨g, 0, none⟩ (.slice A L.length c)) base ok g L :=
 ⟨hf, hok, hlow, A, c, by rw [blk_set hb]; subst hn; rfl, Kd.S_far hS (fun _ hk => hk.2) _⟩
theorem PoolAt.more {T : Nat} {w : World} {base : Nat} {ok ok' : Nat → Prop} {g : Nat} {L : List (List Tok3)} (h : PoolAt T w base ok g L) (hk : ∀ k, ok k → ok' k) : PoolAt T w base ok' g L := by
 obtain ⟨hf, h1, h2, A, c, hb, hS⟩ := h
 exact ⟨hf, hk _ h1, h2, A, c, hb, Kd.S_mono hS (fun k h => ⟨hk k h.1, h.2⟩)⟩
theorem PoolAt.lt {T : Nat} {w : World} {base : Nat} {ok : Nat → Prop} {g : Nat} {L : List (List Tok3)} (h : PoolAt T w base ok g L) : g < w.heap.size := by
 obtain ⟨hf, h1, h2, A, c, hb, hS⟩ := h
 exact blk_lt hb
/-- another pool's call -/
theorem PoolAt.kept {T : Nat} {w w' : World} {base : Nat} {ok S : Nat → Prop} {g : Nat} {L : List (List Tok3)} (h : PoolAt T w base ok g L) (hk : Kept w w' S) (hne : ∀ k, ok k → ¬ S k) : PoolAt T w' base (fun k => ok k ∧ k < w.heap.size) g L := by
 obtain ⟨hf, h1, h2, A, c, hb, hS⟩ := h
 refine ⟨hf, ⟨h1, blk_lt hb⟩, h2, A, c, blk_kept hb hk (hne g h1), ?_⟩
 exact Kd.S_mono (Kd.S_kept (Kd.S_bound hS) hk (fun k h => hne k h.1.1)) (fun k h => ⟨⟨h.1.1, h.2.2.1⟩, h.1.2⟩)
theorem open_any (w0 w : World) (ok : Nat → Prop) (g : Nat) (L : List (List Tok3)) (H : PoolAt 49 w w0.heap.size ok g L) (HB : Below w0.heap.size w0 w) :
  Calls Tryz.prog 13 #[.pointer (some ⟨g, 0, none⟩)] w fun e w' => e = .returned (.tuple #[.int .i64 (opnR L).1, .int .i64 (opnR L).2]) ∧ PoolAt 49 w' w0.heap.size (fun k => ok k ∨ w.heap.size ≤ k) g (opnL L) ∧ Below w0.heap.size w0 w' ∧ Kept w w' ok := by
 by_cases hl : 20000 ≤ L.length
 ·have HE := Aside0.mk (show opnR L = (0, 5) by unfold opnR; rw [if_pos hl])
  have HP := Aside0.mk (show PoolAt 49 w w0.heap.size (fun k => ok k ∨ w.heap.size ≤ k) g (opnL L) by unfold opnL; rw [if_pos hl]; exact H.more (fun k h => .inl h))
  have HB' := Aside0.mk HB
  obtain ⟨hf, -, -, A, c, hb, -⟩ := H
  have hc0 : w.cell? ⟨g, 0, none⟩ = some (.slice A L.length c) := by rw [blk_cell hb]; rfl
  have hl' : (20000 : Int) ≤ (L.length : Int) := by omega
  clear hb hf HB
  go_enter Tryz.func13, Tryz.ntmps13
  go_wp2
  go_ret2
  exact ⟨by rw [HE.out]; rfl, HP.out, HB'.out, Kept.refl _ _⟩
 ·have HE := Aside0.mk (show opnR L = ((L.length : Int) + 1, 0) by unfold opnR; rw [if_neg hl])
  have HL := Aside0.mk (show opnL L = L ++ [[]] by unfold opnL; rw [if_neg hl])
  have HB' := Aside0.mk HB
  have hlt := Aside0.mk H.lt
  have HF := Aside0.mk (fit_opn H.fit)
  obtain ⟨hf, hok, hlow, A, c, hb, hS⟩ := H
  have hc0 : w.cell? ⟨g, 0, none⟩ = some (.slice A L.length c) := by rw [blk_cell hb]; rfl
  have hl' : (L.length : Int) < 20000 := by omega
  have hl2 : ¬ (20000 : Int) ≤ (L.length : Int) := by omega
  have hS' := Aside0.mk hS
  have hb' := Aside0.mk hb
  have hok' := Aside0.mk hok
  have hlow' := Aside0.mk hlow
  have hl3 := Aside0.mk hl'
  clear hb hf HB hS hl hok hlow
  go_enter Tryz.func13, Tryz.ntmps13
  go_wp2_with ((with_reducible refine gate_builtin (b := .append) (xs := #[.tmp 18, .tmp 19]) rfl ?_); at_builtin; refine Kd.S_append rk (w0 := w0) w0.heap.size rfl (.tmp 18) (.tmp 19) 47 63 (.slice none 0 0) 24 rfl Tryz.underlying47 info63 rfl (by decide) (by omega) (.slice A L.length c) L [] [.slice none 0 0] (fun k => (ok k ∨ w.heap.size ≤ k) ∧ k ≠ g) (fun _ => False) rfl rfl ⟨_, rfl, Kd.R_nil _ _ _ _ _⟩ (fun _ h => h.elim) ?aF ?aO HB'.out HB'.out.size ?aL ?_; (case aF => exact fun k hk => ⟨.inr hk, by have := hlt.out; omega⟩); (case aO => exact Kd.S_mono hS'.out (fun k hk => ⟨⟨.inl hk.1, hk.2⟩, fun h => h⟩)); (case aL => have := hl3.out; omega); intro v1 w1 ho hbel hg hat; obtain ⟨A1, c1, rfl⟩ := Kd.S_slice ho; have hb1 := blk_grown hb'.out hg (Kd.S_away hS'.out (fun _ hk => hk.2)); have hcell1 : w1.cell? ⟨g, 0, none⟩ = some (.slice A L.length c) := (by rw [blk_cell hb1]; rfl); have hfr1 := blk_frozen hb1 0; have n0_ := Aside0.mk ho; have n1_ := Aside0.mk hbel; have n2_ := Aside0.mk hb1; have n3_ := Aside0.mk (Kept.of_grown (S := ok) hg (Kept.refl w _) (fun k e_ => .inl (hS'.out.choose_spec.1 k e_).1)); clear ho hbel hg hat hb1)
  go_ret2
  exact ⟨by rw [HE.out]; rfl, by rw [HL.out] at HF ⊢; have h_ := PoolAt.put0 HF.out (.inl hok'.out) hlow'.out (by rw [cnt_append]; simp [cnt]) n2_.out n0_.out; rw [List.length_append, List.length_singleton] at h_; exact h_, below_set n1_.out hlow'.out, n3_.out.setCell (.inl hok'.out) _⟩
def tcs (t : Tok3) : List Value := [.int .i64 t.1, .int .i64 t.2.1, .int .i64 t.2.2]
/-- ahead of an append to a definition: the pool (its count n), and the token in a block of its own -/
structure Mid (T : Nat) (w0 w wc : World) (ok : Nat → Prop) (g : Nat) (L : List (List Tok3)) (n : Int) (t : Tok3) : Prop where
 mk ::
 at_ : ∃ A c, wc.heap[g]? = some (.cells #[.slice A L.length c, .int .i64 n] T (0, 0)) ∧ Kd.S rk 63 wc w0.heap.size (fun k => (ok k ∧ k < w.heap.size) ∧ k ≠ g) (.slice A L.length c) L
 box : wc.heap[w.heap.size]? = some (.cells (tcs t).toArray 23 (0, 0))
 below : Below w0.heap.size w0 wc
 kept : Kept w wc ok
/-- behind it -/
structure Aft (T : Nat) (w0 w wc : World) (ok : Nat → Prop) (g : Nat) (L : List (List Tok3)) (n : Int) : Prop where
 mk ::
 at_ : ∃ A c, wc.heap[g]? = some (.cells #[.slice A L.length c, .int .i64 n] T (0, 0)) ∧ Kd.S rk 63 wc w0.heap.size (fun k => (ok k ∨ w.heap.size ≤ k) ∧ k ≠ g) (.slice A L.length c) L
 below : Below w0.heap.size w0 wc
 kept : Kept w wc ok
theorem tk_R {w : World} {base : Nat} {ok : Nat → Prop} {v : Value} {l : List Tok3} (h : Kd.R tk 23 w base ok v l) : (∀ k, v.ownBlock = some k → ok k) ∧ ∃ inner, w.ownsRow base 23 3 v l.length inner ∧ Reps (fun (t : Tok3) cs => cs = tcs t) 3 l inner := by
 obtain ⟨h0, inner, ho, hr⟩ := h
 refine ⟨h0, inner, ho, hr.imp_ ?_⟩
 rintro t cs ⟨c0, c1, rfl, rfl, c2, c3, rfl, rfl, rfl⟩
 rfl
theorem R_tk {w : World} {base : Nat} {ok : Nat → Prop} {v : Value} {l : List Tok3} {inner : List Value} (h0 : ∀ k, v.ownBlock = some k → ok k) (ho : w.ownsRow base 23 3 v l.length inner) (hr : Reps (fun (t : Tok3) cs => cs = tcs t) 3 l inner) : Kd.R tk 23 w base ok v l :=
 ⟨h0, inner, ho, hr.imp_ (fun t cs h => ⟨_, _, by rw [h]; rfl, rfl, _, _, rfl, rfl, rfl⟩)⟩
theorem aft_of {T : Nat} {w0 w wc w1 : World} {o : Obj} {ok oki : Nat → Prop} {g gd gg c2 c' cap : Nat} {n d : Int} {L : List (List Tok3)} {l : List Tok3} {t : Tok3} {A' : Option Addr} {inner : List Value}
  (hb2 : wc.heap[g]? = some (.cells #[.slice (some ⟨gd, 0, none⟩) L.length c2, .int .i64 n] T (0, 0)))
  (hH : Kd.H rk 63 wc w0.heap.size (fun k => (ok k ∧ k < w.heap.size) ∧ k ≠ g) (.slice (some ⟨gd, 0, none⟩) L.length c2) L (d - 1) oki [.slice A' l.length c'])
  (hoki : ∀ k, oki k → ((ok k ∧ k < w.heap.size) ∧ k ≠ g) ∧ k ≠ gd) (h0k : ∀ k, (Value.slice A' l.length c').ownBlock = some k → oki k)
  (hown : wc.ownsRow w0.heap.size 23 3 (.slice A' l.length c') l.length inner) (hrep : Reps (fun (t : Tok3) cs => cs = tcs t) 3 l inner) (hbel : Below w0.heap.size w0 wc) (hkp : Kept w wc ok) (hlow : w0.heap.size ≤ w.heap.size)
  (hown1 : w1.ownsRow w0.heap.size 23 3 (.slice (some ⟨gg, 0, none⟩) (l.length + 1) cap) (l.length + 1) (inner ++ tcs t)) (hgrow : (wc.alloc o).drew.grownBy w1 (Value.slice A' l.length c').ownBlock)
  (hat : (Value.slice A' l.length c').ownBlock = some gg ∨ gg = wc.heap.size + 1) (h1 : 1 ≤ d) (h2 : d ≤ (L.length : Int)) :
  Aft T w0 w (w1.setCell ⟨gd, d.toNat - 1, none⟩ (.slice (some ⟨gg, 0, none⟩) (l.length + 1) cap)) ok g (L.set (d.toNat - 1) (l ++ [t])) n := by
 have hgd : ((ok gd ∧ gd < w.heap.size) ∧ gd ≠ g) ∧ ¬ oki gd := by
  obtain ⟨_, f, hR⟩ := hH
  exact hR.1 gd (by simp [Value.ownBlock])
 have hgdb : w0.heap.size ≤ gd := by
  obtain ⟨_, f, hR⟩ := hH
  exact Kd.R_base hR gd (by simp [Value.ownBlock])
 have hlt := blk_lt hb2
 have hle : w.heap.size ≤ wc.heap.size := hkp.1
 have hsz : (wc.alloc o).drew.heap.size = wc.heap.size + 1 := by simp
 have hng : ∀ k, (Value.slice A' l.length c').ownBlock = some k → k ≠ g := fun k hk => (hoki k (h0k k hk)).1.2
 have hgg : gg ≠ g ∧ gg ≠ gd := by
  rcases hat with h | h
  ·exact ⟨hng gg h, (hoki gg (h0k gg h)).2⟩
  ·exact ⟨by omega, by have := hgd.1.1.2; omega⟩
 have hb3 : w1.heap[g]? = some (.cells #[.slice (some ⟨gd, 0, none⟩) L.length c2, .int .i64 n] T (0, 0)) := blk_grown (blk_drew (blk_alloc hb2 o)) hgrow (fun h => hng g h.symm rfl)
 have hi : (d - 1).toNat = d.toNat - 1 := by omega
 have hA := Kd.H_widen (Kd.H_mono (ok' := fun k => (ok k ∨ w.heap.size ≤ k) ∧ k ≠ g) hH (fun k hk => ⟨.inl hk.1.1, hk.2⟩))
 have hB := Kd.H_grown (Kd.H_drew (Kd.H_alloc hA o)) hgrow (fun k hk => .inl (h0k k hk))
 have hC := (Kd.H_seg hB (seg := [.slice (some ⟨gg, 0, none⟩) (l.length + 1) cap]) (j := 0) (by omega) (by omega) (by exact Nat.le_refl 1) (by intro q hq; rw [List.mem_singleton.1 hq]; rfl)).1
 rw [hi, show (d.toNat - 1) * rk.sz + 0 = d.toNat - 1 by show (d.toNat - 1) * 1 + 0 = _; omega] at hC
 simp only [World.setCells] at hC
 have hD : Kd.R tk 23 w1 w0.heap.size (fun k => k = gg) (.slice (some ⟨gg, 0, none⟩) (l.length + 1) cap) (l ++ [t]) :=
  R_tk (fun k hk => by simpa [Value.ownBlock] using hk.symm) (by rw [List.length_append, List.length_singleton]; exact hown1) (hrep.snoc rfl rfl)
 have hE := Kd.R_far (p := ⟨gd, d.toNat - 1, none⟩) hD (fun k hk => by rw [hk]; exact hgg.2) (.slice (some ⟨gg, 0, none⟩) (l.length + 1) cap)
 have hF := Kd.H_back hC (x' := l ++ [t]) (okp := fun k => k = gg) ⟨_, rfl, hE⟩ (fun k hk => by
  subst hk
  rcases hat with h | h
  ·exact .inl (h0k _ h)
  ·exact .inr ⟨⟨.inr (by omega), hgg.1⟩, by omega⟩)
 rw [hi] at hF
 refine ⟨⟨some ⟨gd, 0, none⟩, c2, ?_, ?_⟩, ?_, ?_⟩
 ·rw [List.length_set]
  exact blk_far hb3 (Ne.symm hgd.1.2) _
 ·rw [List.length_set]
  exact hF
 ·exact below_set (pw_below_grown (below_alloc hbel o).drew _ (by rw [hsz]; omega) hgrow (fun k hk => own_base hown k hk)) hgdb
 ·exact (Kept.of_grown hgrow (hkp.alloc _).drew (fun k hk => .inl (hoki k (h0k k hk)).1.1.1)).setCell (.inl hgd.1.1.1) _
theorem Aft.pool {T : Nat} {w0 w wc : World} {ok : Nat → Prop} {g : Nat} {L : List (List Tok3)} {n : Int} (h : Aft T w0 w wc ok g L n) (hf : Fit L) (hok : ok g) (hlow : w0.heap.size ≤ g) (hn : n = (cnt L : Int)) : PoolAt T wc w0.heap.size (fun k => ok k ∨ w.heap.size ≤ k) g L := by
 obtain ⟨⟨A, c, hb, hS⟩, -, -⟩ := h
 subst hn
 exact ⟨hf, .inl hok, hlow, A, c, hb, hS⟩
theorem row_set {L : List (List Tok3)} {d : Int} {l : List Tok3} (h1 : 1 ≤ d) (h2 : d ≤ (L.length : Int)) : row (L.set (d.toNat - 1) l) d = l := by
 unfold row
 rw [List.getD_eq_getElem?_getD, List.getElem?_set_self (by omega)]
 rfl
set_option maxRecDepth 100000 in
theorem emit_one (w0 w : World) (ok : Nat → Prop) (g : Nat) (L : List (List Tok3)) (d : Int) (t : Tok3) (H : PoolAt 49 w w0.heap.size ok g L) (HB : Below w0.heap.size w0 w) (hd : isD L d = true) (hn : cnt L < 100000) :
  Calls Tryz.prog 14 #[.pointer (some ⟨g, 0, none⟩), .int .i64 d, .agg #[.int .i64 t.1, .int .i64 t.2.1, .int .i64 t.2.2]] w fun e w' => e = .returned (.tuple #[.int .i64 (emtR L d).1, .int .i64 (emtR L d).2]) ∧ PoolAt 49 w' w0.heap.size (fun k => ok k ∨ w.heap.size ≤ k) g (emtL L d t) ∧ Below w0.heap.size w0 w' ∧ Kept w w' ok := by
 obtain ⟨h1, h2⟩ := isD_iff.1 hd
 have HE := Aside0.mk (show emtR L d = (((row L d).length : Int), 0) by unfold emtR; rw [if_pos hd, if_neg (by omega)])
 have HL := Aside0.mk (show emtL L d t = L.set (d.toNat - 1) (row L d ++ [t]) by unfold emtL; rw [if_pos hd, if_neg (by omega)])
 have HF := Aside0.mk (fit_emt H.fit d t)
 have HI : ∀ o, Calls Tryz.prog 30 #[.pointer (some ⟨g, 0, none⟩), .int .i64 d] (w.alloc o) fun e w'' => e = .returned (.bool true) ∧ w.alloc o = w'' := fun o => by
  have h_ := is_any 49 _ _ _ g L d (H.kept ((Kept.refl w (fun _ => False)).alloc o) (fun _ _ h => h))
  rw [hd] at h_
  exact h_
 have HP := Aside0.mk H
 have HBB := Aside0.mk HB
 have hglt := H.lt
 obtain ⟨hf, hok, hlow, A, c, hb, hS⟩ := H
 have hca : ∀ o, (w.alloc o).cell? ⟨g, 0, none⟩ = some (.slice A L.length c) := fun o => by rw [blk_cell (blk_alloc hb o)]; rfl
 obtain ⟨n, en⟩ : ∃ n : Int, n = (cnt L : Int) := ⟨_, rfl⟩
 have hcb : ∀ o, (w.alloc o).cell? ⟨g, 1, none⟩ = some (.int .i64 n) := fun o => by rw [blk_cell (blk_alloc hb o), en]; rfl
 have hfb : ∀ o, (w.alloc o).frozen? ⟨g, 1, none⟩ = false := fun o => blk_frozen (blk_alloc hb o) 1
 have hn0 : 0 ≤ n := by omega
 have hn1 : n < 100000 := by omega
 have hn2 : ¬ 100000 ≤ n := by omega
 have EN := Aside0.mk en
 have hb' := Aside0.mk hb
 have hS' := Aside0.mk hS
 clear hb hS hf HB hd hn en
 go_enter Tryz.func14, Tryz.ntmps14
 go_upto_region 5 with (go_at_call 30; refine (HI _).mono ?_; rintro e w' ⟨rfl, rfl⟩)
 go_cut [] (fun wc => Aside0 (Mid 49 w0 w wc ok g L (n + 1) t))
 case first =>
  go_wp2
  go_meet
  case rel =>
   refine ⟨⟨⟨A, c, ?_, ?_⟩, ?_, ?_, ?_⟩⟩
   ·exact blk_alloc (by rw [blk_set hb'.out]; rfl) _
   ·exact Kd.S_mono (Kd.S_alloc (Kd.S_far (Kd.S_bound hS'.out) (fun _ hk => hk.1.2) _) _) (fun k hk => ⟨⟨hk.1.1, hk.2.2.1⟩, hk.1.2⟩)
   ·have hb_ := blk_new (w.setCell ⟨g, 1, none⟩ (.int .i64 (n + 1))) (Obj.cells (tcs t).toArray 23)
    rw [show (w.setCell ⟨g, 1, none⟩ (.int .i64 (n + 1))).heap.size = w.heap.size by simp [World.setCell]] at hb_
    exact hb_
   ·exact below_alloc (below_set HBB.out HP.out.low) _
   ·exact ((Kept.refl w ok).setCell (.inl HP.out.okg) _).alloc _
 case rest =>
  obtain ⟨wb, rfl⟩ : ∃ wb : World, wb = wc := ⟨_, rfl⟩
  obtain ⟨⟨A2, c2, hb2, hS2⟩, hbx, hbel, hkp⟩ := hcut.out
  obtain ⟨gd, cap, he, -, hgdlt, -⟩ := Kd.S_form hS2 (by omega)
  injection he with e1 e2 e3
  subst e1
  obtain ⟨oki, cs, hcl, hM, hcc, hfr, hoki, hH⟩ := Kd.S_elem hS2 [] (d - 1) (by omega) (by omega)
  obtain ⟨v, rfl, hR⟩ := hM
  obtain ⟨A', c', rfl⟩ := Kd.R_slice hR
  have h3 := hcc 0 _ rfl
  have h4 := hfr 0
  simp only [show rk.sz = 1 from rfl, Nat.mul_one, Nat.add_zero] at h3 h4
  rw [show (d - 1).toNat = d.toNat - 1 by omega] at h3 h4 hR
  obtain ⟨l, el⟩ : ∃ l, l = L.getD (d.toNat - 1) [] := ⟨_, rfl⟩
  rw [← el] at h3 hR
  rw [show L.getD (d - 1).toNat [] = l by rw [show (d - 1).toNat = d.toNat - 1 by omega]; exact el.symm] at hH
  obtain ⟨h0k, inner, hown, hrep⟩ := tk_R hR
  have ag : (Value.slice A' l.length c').ownBlock ≠ some g := fun e => (hoki g (h0k g e)).1.2 rfl
  have ad : (Value.slice A' l.length c').ownBlock ≠ some gd := fun e => (hoki gd (h0k gd e)).2 rfl
  have ax : (Value.slice A' l.length c').ownBlock ≠ some w.heap.size := fun e => Nat.lt_irrefl _ (hoki _ (h0k _ e)).1.1.2
  have lg := blk_lt hb2
  have lx := blk_lt hbx
  have hc0 : wb.cell? ⟨g, 0, none⟩ = some (.slice (some ⟨gd, 0, none⟩) L.length c2) := by rw [blk_cell hb2]; rfl
  have hx0 : wb.cell? ⟨w.heap.size, 0, none⟩ = some (.int .i64 t.1) := by rw [blk_cell hbx]; rfl
  have hx1 : wb.cell? ⟨w.heap.size, 1, none⟩ = some (.int .i64 t.2.1) := by rw [blk_cell hbx]; rfl
  have hx2 : wb.cell? ⟨w.heap.size, 2, none⟩ = some (.int .i64 t.2.2) := by rw [blk_cell hbx]; rfl
  have hi0 : 0 ≤ d - 1 := by omega
  have hi1 : d - 1 < (L.length : Int) := by omega
  have hi2 : (d - 1).toNat = d.toNat - 1 := by omega
  have hll : l.length ≤ 100000 := by rw [el]; have := cnt_row L (d.toNat - 1); have := HP.out.fit.toks; omega
  have hdef : L.length ≤ 20000 := HP.out.fit.defs
  have hiw : IntKind.i64.wrap (d - 1) = d - 1 := IntWalk.i64_in _ (by omega)
  obtain ⟨N, eN⟩ : ∃ N, N = w.heap.size := ⟨_, rfl⟩
  obtain ⟨i0, hii, hz0, hz1, hz2⟩ := info_parts info23
  have HA := Aside0.mk (fun {gg cap : Nat} {w1 : World} {o : Obj} => aft_of (o := o) (gg := gg) (cap := cap) (w1 := w1) (t := t) hb2 hH hoki h0k hown hrep hbel hkp HBB.out.size)
  have HO := Aside0.mk hown
  have Hlow := Aside0.mk hbel.size
  have HEL := Aside0.mk el
  have HAG := Aside0.mk ag
  have HAD := Aside0.mk ad
  have hH1 := Aside0.mk h1
  have hH2 := Aside0.mk h2
  clear hb2 hS2 hbx hbel hkp hcl hcc hfr hoki hH hR h0k hown hrep hcut hca hcb hfb HI hb' hS' el ag ad ax
  go_upto_region 6 with (fail)
  go_cut [] (fun wd => Aside0 (Aft 49 w0 w wd ok g (L.set (d.toNat - 1) (l ++ [t])) (n + 1)))
  case first =>
   go_region_law ((refine step_append_lies _ (by rfl) _ _ _ (by rfl) w0.heap.size 23 i0 _ 3 24 Tryz.underlying63 hii hz0 hz1 hz2 rfl (by omega) (.slice A' l.length c') l.length inner (by rfl) ((HO.out.alloc _).drew) ⟨wb.heap.size, 0, none⟩ 1 1 (tcs t) (by rfl) (by rfl) (World.news_of_block (cs := (tcs t).toArray) (t := 23) (fr := (0, 0)) (heap_alloc_new wb _)) (by simp [tcs, Value.oneCell']) (by omega) (by unfold maxLen; omega) (by omega) (by have := Hlow.out; simp; omega) (wb.heap.size + 1) (by simp) ?_; intro gg cap w1 hown1 hgrow hat hlt; have k1 := hgrow.cell_far ⟨g, 0, none⟩ (by simp; omega) (Ne.symm HAG.out); have k2 := hgrow.cell_far ⟨gd, d.toNat - 1, none⟩ (by simp; omega) (Ne.symm HAD.out); have k3 := hgrow.frozen_far ⟨gd, d.toNat - 1, none⟩ (by simp; omega) (Ne.symm HAD.out); simp [hc0, h3, h4, World.cell?_alloc_some, frozen?_alloc_cells] at k1 k2 k3))
   all_goals
    go_wp2_with fail
    go_meet
    case rel => exact ⟨HA.out hown1 hgrow hat hH1.out hH2.out⟩
  case rest =>
   have HQ := hcut.out
   have HPN := HQ.pool (by have h_ := HF.out; rw [HL.out] at h_; unfold row at h_; rw [← HEL.out] at h_; exact h_) HP.out.okg HP.out.low (by have h_ := cnt_set L (d.toNat - 1) (l ++ [t]) (by omega); rw [← HEL.out, List.length_append, List.length_singleton] at h_; have := EN.out; omega)
   obtain ⟨ge, ce, Ae, ce', hbe, hce, -, -⟩ := HPN.row_at h1 (by rw [List.length_set]; exact h2)
   rw [row_set h1 h2, List.length_append, List.length_singleton] at hce
   rw [List.length_set] at hbe
   have hc1 : wc.cell? ⟨g, 0, none⟩ = some (.slice (some ⟨ge, 0, none⟩) L.length ce) := by rw [blk_cell hbe]; rfl
   have HZ := Aside0.mk (And.intro HPN (And.intro HQ.below HQ.kept))
   clear HPN hbe HQ hcut hc0 hx0 hx1 hx2 h3 h4 HA HO
   go_wp2_with fail
   go_ret2
   exact ⟨by rw [HE.out]; unfold row; rw [← HEL.out]; rfl, by rw [HL.out]; unfold row; rw [← HEL.out]; exact HZ.out.1, HZ.out.2⟩
theorem PoolAt.alloc {T : Nat} {w : World} {base : Nat} {ok ok' : Nat → Prop} {g : Nat} {L : List (List Tok3)} (h : PoolAt T w base ok g L) (hk : ∀ k, ok k → ok' k) (o : Obj) : PoolAt T (w.alloc o) base ok' g L := by
 obtain ⟨hf, h1, h2, A, c, hb, hS⟩ := h
 exact ⟨hf, hk _ h1, h2, A, c, blk_alloc hb o, Kd.S_mono (Kd.S_alloc hS o) (fun k h => ⟨hk k h.1, h.2⟩)⟩
set_option maxRecDepth 100000 in
theorem emit_any (w0 w : World) (ok : Nat → Prop) (g : Nat) (L : List (List Tok3)) (d : Int) (t : Tok3) (H : PoolAt 49 w w0.heap.size ok g L) (HB : Below w0.heap.size w0 w) :
  Calls Tryz.prog 14 #[.pointer (some ⟨g, 0, none⟩), .int .i64 d, .agg #[.int .i64 t.1, .int .i64 t.2.1, .int .i64 t.2.2]] w fun e w' => e = .returned (.tuple #[.int .i64 (emtR L d).1, .int .i64 (emtR L d).2]) ∧ PoolAt 49 w' w0.heap.size (fun k => ok k ∨ w.heap.size ≤ k) g (emtL L d t) ∧ Below w0.heap.size w0 w' ∧ Kept w w' ok := by
 by_cases hd : isD L d = true
 ·by_cases hn : 100000 ≤ cnt L
  ·have HI : ∀ o, Calls Tryz.prog 30 #[.pointer (some ⟨g, 0, none⟩), .int .i64 d] (w.alloc o) fun e w'' => e = .returned (.bool true) ∧ w.alloc o = w'' := fun o => by
    have h_ := is_any 49 _ _ _ g L d (H.alloc (fun _ h => h) o)
    rw [hd] at h_
    exact h_
   have HE := Aside0.mk (show emtR L d = (0, 5) by unfold emtR; rw [if_pos hd, if_pos hn])
   have HL := Aside0.mk (show emtL L d t = L by unfold emtL; rw [if_pos hd, if_pos hn])
   have HP := Aside0.mk (fun o => H.alloc (ok' := fun k => ok k ∨ w.heap.size ≤ k) (fun k h => .inl h) o)
   have HB' := Aside0.mk HB
   obtain ⟨hf, -, -, A, c, hb, -⟩ := H
   obtain ⟨n, en⟩ : ∃ n : Int, n = (cnt L : Int) := ⟨_, rfl⟩
   have hcb : ∀ o, (w.alloc o).cell? ⟨g, 1, none⟩ = some (.int .i64 n) := fun o => by rw [blk_cell (blk_alloc hb o), en]; rfl
   have hn1 : 100000 ≤ n := by omega
   clear hb hf HB hn en hd
   go_enter Tryz.func14, Tryz.ntmps14
   go_wp2_with (go_at_call 30; refine (HI _).mono ?_; rintro e w' ⟨rfl, rfl⟩)
   go_ret2
   exact ⟨by rw [HE.out]; rfl, by rw [HL.out]; exact HP.out _, below_alloc HB'.out _, (Kept.refl w ok).alloc _⟩
  ·exact emit_one w0 w ok g L d t H HB hd (by omega)
 ·have hd := Bool.eq_false_iff.mpr hd
  have HI : ∀ o, Calls Tryz.prog 30 #[.pointer (some ⟨g, 0, none⟩), .int .i64 d] (w.alloc o) fun e w'' => e = .returned (.bool false) ∧ w.alloc o = w'' := fun o => by
   have h_ := is_any 49 _ _ _ g L d (H.alloc (fun _ h => h) o)
   rw [hd] at h_
   exact h_
  have HE := Aside0.mk (show emtR L d = (0, 1) by unfold emtR; rw [hd]; rfl)
  have HL := Aside0.mk (show emtL L d t = L by unfold emtL; rw [hd]; rfl)
  have HP := Aside0.mk (fun o => H.alloc (ok' := fun k => ok k ∨ w.heap.size ≤ k) (fun k h => .inl h) o)
  have HB' := Aside0.mk HB
  clear H HB hd
  go_enter Tryz.func14, Tryz.ntmps14
  go_wp2_with (go_at_call 30; refine (HI _).mono ?_; rintro e w' ⟨rfl, rfl⟩)
  go_ret2
  exact ⟨by rw [HE.out]; rfl, by rw [HL.out]; exact HP.out _, below_alloc HB'.out _, (Kept.refl w ok).alloc _⟩
/-- in the loop of Cut: so much of the count is left -/
structure Rest (T : Nat) (w0 w wr : World) (ok : Nat → Prop) (g gd c : Nat) (L : List (List Tok3)) (n : Int) : Prop where
 mk ::
 blk : wr.heap[g]? = some (.cells #[.slice (some ⟨gd, 0, none⟩) L.length c, .int .i64 n] T (0, 0))
 row : Kd.S rk 63 wr w0.heap.size (fun k => ok k ∧ k ≠ g) (.slice (some ⟨gd, 0, none⟩) L.length c) L
 below : Below w0.heap.size w0 wr
 kept : Kept w wr ok
theorem Rest.at_ {T : Nat} {w0 w wr : World} {ok : Nat → Prop} {g gd c : Nat} {L : List (List Tok3)} {n : Int} (h : Rest T w0 w wr ok g gd c L n) (i : Nat) (hi : i < L.length) :
  ∃ A' c', wr.cell? ⟨gd, i, none⟩ = some (.slice A' (L.getD i []).length c') := by
 obtain ⟨hb, hS, -, -⟩ := h
 obtain ⟨oki, cs, hcl, hM, hcc, hfr, hoki, hH⟩ := Kd.S_elem hS [] (i : Int) (by omega) (by omega)
 obtain ⟨v, rfl, hR⟩ := hM
 obtain ⟨A', c', rfl⟩ := Kd.R_slice hR
 have h3 := hcc 0 _ rfl
 rw [Int.toNat_natCast, show i * rk.sz + 0 = i by show i * 1 + 0 = i; omega] at h3
 exact ⟨A', c', h3⟩
theorem Rest.put {T : Nat} {w0 w wr : World} {ok : Nat → Prop} {g gd c : Nat} {L : List (List Tok3)} {n : Int} (h : Rest T w0 w wr ok g gd c L n) (hok : ok g) (hlow : w0.heap.size ≤ g) (n' : Int) : Rest T w0 w (wr.setCell ⟨g, 1, none⟩ (.int .i64 n')) ok g gd c L n' := by
 obtain ⟨hb, hS, hbel, hk⟩ := h
 exact ⟨by rw [blk_set hb]; rfl, Kd.S_far hS (fun _ hk => hk.2) _, below_set hbel hlow, hk.setCell (.inl hok) _⟩
theorem Rest.drew {T : Nat} {w0 w wr : World} {ok : Nat → Prop} {g gd c : Nat} {L : List (List Tok3)} {n : Int} (h : Rest T w0 w wr ok g gd c L n) : Rest T w0 w wr.drew ok g gd c L n := by
 obtain ⟨hb, hS, hbel, hk⟩ := h
 exact ⟨blk_drew hb, Kd.S_drew hS, below_drew hbel, hk.drew⟩
end Go.Proofs.YtneepokiioefgaaGreatDoor.Pools
namespace Go.Proofs
open Go.Shelf
def Tryz.lays169_ren : Go.Shelf.Ren := ⟨fun | 169 => 42 | n => n, fun | 70 => 71 | 9 => 9 | 0 => 0 | 72 => 74 | 37 => 72 | 127 => 92 | 3 => 3 | 5 => 5 | n => n, fun | n => n⟩
theorem Tryz.lays169 : Go.Proofs.Lays.n169 Tryz.prog Tryz.lays169_ren := {
 mixed := by kernel_rfl
 f169 := Tryz.func42.trans (congrArg some (by kernel_rfl))
 t0 := Tryz.underlying0
 a0 := Tryz.isAgg0
 z0 := Tryz.sizeOf0
 v0 := Tryz.zeroValue0
 t3 := Tryz.underlying3
 a3 := Tryz.isAgg3
 z3 := Tryz.sizeOf3
 v3 := Tryz.zeroValue3
 t9 := Tryz.underlying9
 a9 := Tryz.isAgg9
 z9 := Tryz.sizeOf9
 v9 := Tryz.zeroValue9
 t37 := Tryz.underlying72
 a37 := Tryz.isAgg72
 z37 := Tryz.sizeOf72
 v37 := Tryz.zeroValue72
 t70 := Tryz.underlying71
 a70 := Tryz.isAgg71
 z70 := Tryz.sizeOf71
 v70 := Tryz.zeroValue71
 t72 := Tryz.underlying74
 a72 := Tryz.isAgg74
 z72 := Tryz.sizeOf74
 v72 := Tryz.zeroValue74
 t127 := Tryz.underlying92
 a127 := Tryz.isAgg92
 z127 := Tryz.sizeOf92
 v127 := Tryz.zeroValue92 }
theorem Tryz.Builder_Extra_169 : Builder.Extra Tryz.prog Tryz.lays169_ren := {
 sizeBuilder := by kernel_rfl
 liesBuilder := by kernel_rfl
 t5 := Tryz.underlying5
 a5 := Tryz.isAgg5
 z5 := Tryz.sizeOf5
 v5 := Tryz.zeroValue5
 infoByte := by kernel_rfl
 cellsByte := by kernel_rfl
 sizeByte := by kernel_rfl
 neB5 := by decide }
def Tryz.lays156_ren : Go.Shelf.Ren := ⟨fun | 156 => 26 | 165 => 40 | 166 => 41 | 169 => 42 | 240 => 52 | 241 => 53 | 276 => 70 | 277 => 71 | n => n, fun | 31 => 58 | 9 => 9 | 3 => 3 | 4 => 4 | 0 => 0 | 20 => 20 | 72 => 74 | 76 => 78 | 70 => 71 | 37 => 72 | 75 => 77 | 127 => 92 | 164 => 110 | 5 => 5 | 80 => 80 | n => n, fun | n => n⟩
theorem Tryz.lays156 : Go.Proofs.Lays.n156 Tryz.prog Tryz.lays156_ren := {
 mixed := by kernel_rfl
 f156 := Tryz.func26.trans (congrArg some (by kernel_rfl))
 f165 := Tryz.func40.trans (congrArg some (by kernel_rfl))
 f166 := Tryz.func41.trans (congrArg some (by kernel_rfl))
 f169 := Tryz.func42.trans (congrArg some (by kernel_rfl))
 f240 := Tryz.func52.trans (congrArg some (by kernel_rfl))
 f241 := Tryz.func53.trans (congrArg some (by kernel_rfl))
 f276 := Tryz.func70.trans (congrArg some (by kernel_rfl))
 f277 := Tryz.func71.trans (congrArg some (by kernel_rfl))
 t0 := Tryz.underlying0
 a0 := Tryz.isAgg0
 z0 := Tryz.sizeOf0
 v0 := Tryz.zeroValue0
 t3 := Tryz.underlying3
 a3 := Tryz.isAgg3
 z3 := Tryz.sizeOf3
 v3 := Tryz.zeroValue3
 t4 := Tryz.underlying4
 a4 := Tryz.isAgg4
 z4 := Tryz.sizeOf4
 v4 := Tryz.zeroValue4
 t9 := Tryz.underlying9
 a9 := Tryz.isAgg9
 z9 := Tryz.sizeOf9
 v9 := Tryz.zeroValue9
 t20 := Tryz.underlying20
 a20 := Tryz.isAgg20
 z20 := Tryz.sizeOf20
 v20 := Tryz.zeroValue20
 t31 := Tryz.underlying58
 a31 := Tryz.isAgg58
 z31 := Tryz.sizeOf58
 v31 := Tryz.zeroValue58
 t37 := Tryz.underlying72
 a37 := Tryz.isAgg72
 z37 := Tryz.sizeOf72
 v37 := Tryz.zeroValue72
 t70 := Tryz.underlying71
 a70 := Tryz.isAgg71
 z70 := Tryz.sizeOf71
 v70 := Tryz.zeroValue71
 t72 := Tryz.underlying74
 a72 := Tryz.isAgg74
 z72 := Tryz.sizeOf74
 v72 := Tryz.zeroValue74
 t75 := Tryz.underlying77
 a75 := Tryz.isAgg77
 z75 := Tryz.sizeOf77
 v75 := Tryz.zeroValue77
 t76 := Tryz.underlying78
 a76 := Tryz.isAgg78
 z76 := Tryz.sizeOf78
 v76 := Tryz.zeroValue78
 t127 := Tryz.underlying92
 a127 := Tryz.isAgg92
 z127 := Tryz.sizeOf92
 v127 := Tryz.zeroValue92
 t164 := Tryz.underlying110
 a164 := Tryz.isAgg110
 z164 := Tryz.sizeOf110
 v164 := Tryz.zeroValue110 }
theorem Tryz.Builder_Extra_156 : Builder.Extra Tryz.prog Tryz.lays156_ren := {
 sizeBuilder := by kernel_rfl
 liesBuilder := by kernel_rfl
 t5 := Tryz.underlying5
 a5 := Tryz.isAgg5
 z5 := Tryz.sizeOf5
 v5 := Tryz.zeroValue5
 infoByte := by kernel_rfl
 cellsByte := by kernel_rfl
 sizeByte := by kernel_rfl
 neB5 := by decide }
open Go.RowKit in
/-- The library's contract, laid over this program. -/
theorem Tryz.strings_Join (bk o c : Nat) (xs : List ByteArray) (sep : ByteArray) (w : World) (hcells : ∀ (j : Nat) x, xs[j]? = some x → w.cell? ⟨bk, o + j, none⟩ = some (.string x)) (hbk : bk < w.heap.size) (hN : xs.length ≤ 140737488355328) (hcap : xs.length ≤ c) (hlen : (Lib.join (xs.map (·.data.toList)) sep.data.toList).length ≤ 140737488355328) :
  Calls Tryz.prog 26 #[.slice (some ⟨bk, o, none⟩) xs.length c, .string sep] w fun e w' => e = .returned (.string ⟨(Lib.join (xs.map (·.data.toList)) sep.data.toList).toArray⟩) ∧ Below w.heap.size w w' := Any.strings_Join Tryz.lays156 Tryz.Builder_Extra_156 bk o c xs sep w hcells hbk hN hcap hlen
def Tryz.lays161_ren : Go.Shelf.Ren := ⟨fun | 161 => 129 | 231 => 138 | 227 => 139 | 233 => 140 | 235 => 141 | 228 => 142 | 197 => 143 | 151 => 144 | 260 => 145 | 152 => 146 | 137 => 147 | 119 => 148 | 224 => 149 | 225 => 150 | 217 => 151 | 266 => 152 | n => n, fun | 9 => 9 | 4 => 4 | 3 => 3 | 5 => 5 | 117 => 173 | 116 => 172 | 0 => 0 | 124 => 176 | 105 => 180 | 21 => 21 | 119 => 184 | 46 => 118 | 139 => 187 | 138 => 186 | n => n, fun | 3 => 5 | 4 => 6 | n => n⟩
theorem Tryz.lays161 : Go.Proofs.Lays.n161 Tryz.prog Tryz.lays161_ren := {
 mixed := by kernel_rfl
 f119 := Tryz.func148.trans (congrArg some (by kernel_rfl))
 f137 := Tryz.func147.trans (congrArg some (by kernel_rfl))
 f151 := Tryz.func144.trans (congrArg some (by kernel_rfl))
 f152 := Tryz.func146.trans (congrArg some (by kernel_rfl))
 f161 := Tryz.func129.trans (congrArg some (by kernel_rfl))
 f197 := Tryz.func143.trans (congrArg some (by kernel_rfl))
 f217 := Tryz.func151.trans (congrArg some (by kernel_rfl))
 f224 := Tryz.func149.trans (congrArg some (by kernel_rfl))
 f225 := Tryz.func150.trans (congrArg some (by kernel_rfl))
 f227 := Tryz.func139.trans (congrArg some (by kernel_rfl))
 f228 := Tryz.func142.trans (congrArg some (by kernel_rfl))
 f231 := Tryz.func138.trans (congrArg some (by kernel_rfl))
 f233 := Tryz.func140.trans (congrArg some (by kernel_rfl))
 f235 := Tryz.func141.trans (congrArg some (by kernel_rfl))
 f260 := Tryz.func145.trans (congrArg some (by kernel_rfl))
 f266 := Tryz.func152.trans (congrArg some (by kernel_rfl))
 t0 := Tryz.underlying0
 a0 := Tryz.isAgg0
 z0 := Tryz.sizeOf0
 v0 := Tryz.zeroValue0
 t3 := Tryz.underlying3
 a3 := Tryz.isAgg3
 z3 := Tryz.sizeOf3
 v3 := Tryz.zeroValue3
 t4 := Tryz.underlying4
 a4 := Tryz.isAgg4
 z4 := Tryz.sizeOf4
 v4 := Tryz.zeroValue4
 t5 := Tryz.underlying5
 a5 := Tryz.isAgg5
 z5 := Tryz.sizeOf5
 v5 := Tryz.zeroValue5
 t9 := Tryz.underlying9
 a9 := Tryz.isAgg9
 z9 := Tryz.sizeOf9
 v9 := Tryz.zeroValue9
 t21 := Tryz.underlying21
 a21 := Tryz.isAgg21
 z21 := Tryz.sizeOf21
 v21 := Tryz.zeroValue21
 t46 := Tryz.underlying118
 a46 := Tryz.isAgg118
 z46 := Tryz.sizeOf118
 v46 := Tryz.zeroValue118
 t105 := Tryz.underlying180
 a105 := Tryz.isAgg180
 z105 := Tryz.sizeOf180
 v105 := Tryz.zeroValue180
 t116 := Tryz.underlying172
 a116 := Tryz.isAgg172
 z116 := Tryz.sizeOf172
 t117 := Tryz.underlying173
 a117 := Tryz.isAgg173
 z117 := Tryz.sizeOf173
 v117 := Tryz.zeroValue173
 t119 := Tryz.underlying184
 a119 := Tryz.isAgg184
 z119 := Tryz.sizeOf184
 t124 := Tryz.underlying176
 a124 := Tryz.isAgg176
 z124 := Tryz.sizeOf176
 v124 := Tryz.zeroValue176
 t138 := Tryz.underlying186
 a138 := Tryz.isAgg186
 z138 := Tryz.sizeOf186
 v138 := Tryz.zeroValue186
 t139 := Tryz.underlying187
 a139 := Tryz.isAgg187
 z139 := Tryz.sizeOf187
 v139 := Tryz.zeroValue187
 g3 := by kernel_rfl
 g4 := by kernel_rfl }
open Go.RowKit in
/-- The library's contract, laid over this program. -/
theorem Tryz.strings_TrimLeft_one (s : ByteArray) (c : UInt8) (hc : c.toNat < 128) (w : World) :
  Calls Tryz.prog 129 #[.string s, .string ⟨#[c]⟩] w fun e w' => e = .returned (.string ⟨(Lib.trimLeftB s.data.toList c).toArray⟩) ∧ w' = w := Any.strings_TrimLeft_one Tryz.lays161 s c hc w
def Tryz.lays128_ren : Go.Shelf.Ren := ⟨fun | 128 => 87 | n => n, fun | 51 => 119 | 3 => 3 | 4 => 4 | 46 => 118 | 5 => 5 | 9 => 9 | n => n, fun | n => n⟩
theorem Tryz.lays128 : Go.Proofs.Lays.n128 Tryz.prog Tryz.lays128_ren := {
 mixed := by kernel_rfl
 f128 := Tryz.func87.trans (congrArg some (by kernel_rfl))
 t3 := Tryz.underlying3
 a3 := Tryz.isAgg3
 z3 := Tryz.sizeOf3
 v3 := Tryz.zeroValue3
 t4 := Tryz.underlying4
 a4 := Tryz.isAgg4
 z4 := Tryz.sizeOf4
 v4 := Tryz.zeroValue4
 t5 := Tryz.underlying5
 a5 := Tryz.isAgg5
 z5 := Tryz.sizeOf5
 v5 := Tryz.zeroValue5
 t9 := Tryz.underlying9
 a9 := Tryz.isAgg9
 z9 := Tryz.sizeOf9
 v9 := Tryz.zeroValue9
 t46 := Tryz.underlying118
 a46 := Tryz.isAgg118
 z46 := Tryz.sizeOf118
 v46 := Tryz.zeroValue118
 t51 := Tryz.underlying119
 a51 := Tryz.isAgg119
 z51 := Tryz.sizeOf119
 v51 := Tryz.zeroValue119 }
/-- The library's contract, laid over this program. -/
theorem Tryz.bits_Len32 (x : Int) (w : World) (h0 : 0 ≤ x) (h1 : x ≤ 4294967295) :
  Calls Tryz.prog 87 #[.int .u32 x] w fun e w' => e = .returned (.int .i64 (Lib.bitLen x.toNat)) ∧ w' = w := Any.bits_Len32 Tryz.lays128 x w h0 h1
def Tryz.lays133_ren : Go.Shelf.Ren := ⟨fun | 133 => 119 | 128 => 87 | n => n, fun | 51 => 119 | 3 => 3 | 4 => 4 | 46 => 118 | 5 => 5 | 9 => 9 | n => n, fun | n => n⟩
theorem Tryz.lays133 : Go.Proofs.Lays.n133 Tryz.prog Tryz.lays133_ren := {
 mixed := by kernel_rfl
 f128 := Tryz.func87.trans (congrArg some (by kernel_rfl))
 f133 := Tryz.func119.trans (congrArg some (by kernel_rfl))
 t3 := Tryz.underlying3
 a3 := Tryz.isAgg3
 z3 := Tryz.sizeOf3
 v3 := Tryz.zeroValue3
 t4 := Tryz.underlying4
 a4 := Tryz.isAgg4
 z4 := Tryz.sizeOf4
 v4 := Tryz.zeroValue4
 t5 := Tryz.underlying5
 a5 := Tryz.isAgg5
 z5 := Tryz.sizeOf5
 v5 := Tryz.zeroValue5
 t9 := Tryz.underlying9
 a9 := Tryz.isAgg9
 z9 := Tryz.sizeOf9
 v9 := Tryz.zeroValue9
 t46 := Tryz.underlying118
 a46 := Tryz.isAgg118
 z46 := Tryz.sizeOf118
 v46 := Tryz.zeroValue118
 t51 := Tryz.underlying119
 a51 := Tryz.isAgg119
 z51 := Tryz.sizeOf119
 v51 := Tryz.zeroValue119 }
/-- The library's contract, laid over this program. -/
theorem Tryz.bits_LeadingZeros32 (x : Int) (w : World) (h0 : 0 ≤ x) (h1 : x ≤ 4294967295) :
  Calls Tryz.prog 119 #[.int .u32 x] w fun e w' => e = .returned (.int .i64 (32 - (Lib.bitLen x.toNat : Int))) ∧ w' = w := Any.bits_LeadingZeros32 Tryz.lays133 x w h0 h1
open Go.RowKit in
/-- The library's contract, laid over this program. -/
theorem Tryz.Builder_String_k (B b : Nat) (l : List UInt8) (w : World) (h : Lib.IsBuilderF 74 5 B b (Lib.byteCells l) w) (h0 : l ≠ []) :
  Calls Tryz.prog 42 #[.pointer (some ⟨b, 0, none⟩)] w fun e w' => e = .returned (.string ⟨l.toArray⟩) ∧ (Lib.IsBuilderF 74 5 B b (Lib.byteCells l) w' ∧ Below B w w' ∧ Lib.OthersKept 5 (some b) w w') := Any.Builder_String_k Tryz.lays169 Tryz.Builder_Extra_169 B b l w h h0
def Tryz.laysM171_ren : Go.Shelf.Ren := ⟨fun | 171 => 25 | 243 => 39 | 246 => 51 | 283 => 66 | 284 => 67 | 285 => 68 | 286 => 69 | 129 => 96 | 317 => 95 | 318 => 97 | 319 => 98 | 320 => 99 | 337 => 130 | 338 => 131 | n => n, fun | 3 => 3 | 9 => 9 | 2 => 2 | 4 => 4 | 171 => 105 | 0 => 0 | 53 => 60 | 37 => 72 | 5 => 5 | 173 => 108 | 212 => 136 | 51 => 119 | 20 => 20 | 213 => 137 | 46 => 118 | 232 => 177 | 233 => 178 | n => n, fun | 17 => 0 | 18 => 3 | 19 => 4 | n => n⟩
theorem Tryz.laysM171 : Go.Proofs.LaysM.n171 Tryz.prog Tryz.laysM171_ren := {
 mixed := by kernel_rfl
 f129 := Tryz.func96.trans (congrArg some (by kernel_rfl))
 f171 := Tryz.func25.trans (congrArg some (by kernel_rfl))
 f243 := Tryz.func39.trans (congrArg some (by kernel_rfl))
 f246 := Tryz.func51.trans (congrArg some (by kernel_rfl))
 f283 := Tryz.func66.trans (congrArg some (by kernel_rfl))
 f284 := Tryz.func67.trans (congrArg some (by kernel_rfl))
 f285 := Tryz.func68.trans (congrArg some (by kernel_rfl))
 f286 := Tryz.func69.trans (congrArg some (by kernel_rfl))
 f317 := Tryz.func95.trans (congrArg some (by kernel_rfl))
 f318 := Tryz.func97.trans (congrArg some (by kernel_rfl))
 f319 := Tryz.func98.trans (congrArg some (by kernel_rfl))
 f320 := Tryz.func99.trans (congrArg some (by kernel_rfl))
 f337 := Tryz.func130.trans (congrArg some (by kernel_rfl))
 f338 := Tryz.func131.trans (congrArg some (by kernel_rfl))
 t0 := Tryz.underlying0
 a0 := Tryz.isAgg0
 z0 := Tryz.sizeOf0
 v0 := Tryz.zeroValue0
 t2 := Tryz.underlying2
 a2 := Tryz.isAgg2
 z2 := Tryz.sizeOf2
 v2 := Tryz.zeroValue2
 t3 := Tryz.underlying3
 a3 := Tryz.isAgg3
 z3 := Tryz.sizeOf3
 v3 := Tryz.zeroValue3
 t4 := Tryz.underlying4
 a4 := Tryz.isAgg4
 z4 := Tryz.sizeOf4
 v4 := Tryz.zeroValue4
 t5 := Tryz.underlying5
 a5 := Tryz.isAgg5
 z5 := Tryz.sizeOf5
 v5 := Tryz.zeroValue5
 t9 := Tryz.underlying9
 a9 := Tryz.isAgg9
 z9 := Tryz.sizeOf9
 v9 := Tryz.zeroValue9
 t20 := Tryz.underlying20
 a20 := Tryz.isAgg20
 z20 := Tryz.sizeOf20
 v20 := Tryz.zeroValue20
 t37 := Tryz.underlying72
 a37 := Tryz.isAgg72
 z37 := Tryz.sizeOf72
 v37 := Tryz.zeroValue72
 t46 := Tryz.underlying118
 a46 := Tryz.isAgg118
 z46 := Tryz.sizeOf118
 v46 := Tryz.zeroValue118
 t51 := Tryz.underlying119
 a51 := Tryz.isAgg119
 z51 := Tryz.sizeOf119
 v51 := Tryz.zeroValue119
 t53 := Tryz.underlying60
 a53 := Tryz.isAgg60
 z53 := Tryz.sizeOf60
 v53 := Tryz.zeroValue60
 t171 := Tryz.underlying105
 a171 := Tryz.isAgg105
 z171 := Tryz.sizeOf105
 v171 := Tryz.zeroValue105
 t173 := Tryz.underlying108
 a173 := Tryz.isAgg108
 z173 := Tryz.sizeOf108
 v173 := Tryz.zeroValue108
 t212 := Tryz.underlying136
 a212 := Tryz.isAgg136
 z212 := Tryz.sizeOf136
 v212 := Tryz.zeroValue136
 t213 := Tryz.underlying137
 a213 := Tryz.isAgg137
 z213 := Tryz.sizeOf137
 t232 := Tryz.underlying177
 a232 := Tryz.isAgg177
 z232 := Tryz.sizeOf177
 v232 := Tryz.zeroValue177
 t233 := Tryz.underlying178
 a233 := Tryz.isAgg178
 z233 := Tryz.sizeOf178
 v233 := Tryz.zeroValue178
 g17 := by kernel_rfl
 g18 := by kernel_rfl
 g19 := by kernel_rfl
 i0 := by kernel_rfl
 i2 := by kernel_rfl
 i3 := by kernel_rfl
 i4 := by kernel_rfl
 i5 := by kernel_rfl
 i9 := by kernel_rfl
 i20 := by kernel_rfl
 i37 := by kernel_rfl
 i46 := by kernel_rfl
 i51 := by kernel_rfl
 i53 := by kernel_rfl
 i171 := by kernel_rfl
 i173 := by kernel_rfl
 i212 := by kernel_rfl
 i232 := by kernel_rfl
 i233 := by kernel_rfl
 m17 := by kernel_rfl
 m18 := by kernel_rfl
 m19 := by kernel_rfl }
open Go.RowKit Go.Sort Go.Lib in
/-- The library's contract, laid over this program. -/
theorem Tryz.strconv_Itoa (n : Int) (h0 : -9223372036854775808 ≤ n) (h1 : n ≤ 9223372036854775807) (w : World) (htab : Lib.TabIs Tryz.prog w "internal/strconv.uint64pow10" .u64 Lib.pow10Tab) :
  Calls Tryz.prog 25 #[.int .i64 n] w fun e w' => e = .returned (.string ⟨(Lib.itoa n).toArray⟩) ∧ ∃ k os, w' = grow (w.drewN k) os := Any.strconv_Itoa Tryz.laysM171 n h0 h1 w htab
def Tryz.lays105_ren : Go.Shelf.Ren := ⟨fun | 105 => 61 | 212 => 83 | 99 => 84 | 165 => 40 | 166 => 41 | 170 => 85 | 169 => 42 | 263 => 111 | 264 => 112 | 206 => 113 | 240 => 52 | 241 => 53 | 276 => 70 | 277 => 71 | n => n, fun | 9 => 9 | 3 => 3 | 4 => 4 | 20 => 20 | 0 => 0 | 46 => 118 | 109 => 125 | 5 => 5 | 72 => 74 | 76 => 78 | 51 => 119 | 146 => 144 | 53 => 60 | 148 => 146 | 70 => 71 | 37 => 72 | 75 => 77 | 127 => 92 | 164 => 110 | 80 => 80 | n => n, fun | n => n⟩
theorem Tryz.lays105 : Go.Proofs.Lays.n105 Tryz.prog Tryz.lays105_ren := {
 mixed := by kernel_rfl
 f99 := Tryz.func84.trans (congrArg some (by kernel_rfl))
 f105 := Tryz.func61.trans (congrArg some (by kernel_rfl))
 f165 := Tryz.func40.trans (congrArg some (by kernel_rfl))
 f166 := Tryz.func41.trans (congrArg some (by kernel_rfl))
 f169 := Tryz.func42.trans (congrArg some (by kernel_rfl))
 f170 := Tryz.func85.trans (congrArg some (by kernel_rfl))
 f206 := Tryz.func113.trans (congrArg some (by kernel_rfl))
 f212 := Tryz.func83.trans (congrArg some (by kernel_rfl))
 f240 := Tryz.func52.trans (congrArg some (by kernel_rfl))
 f241 := Tryz.func53.trans (congrArg some (by kernel_rfl))
 f263 := Tryz.func111.trans (congrArg some (by kernel_rfl))
 f264 := Tryz.func112.trans (congrArg some (by kernel_rfl))
 f276 := Tryz.func70.trans (congrArg some (by kernel_rfl))
 f277 := Tryz.func71.trans (congrArg some (by kernel_rfl))
 t0 := Tryz.underlying0
 a0 := Tryz.isAgg0
 z0 := Tryz.sizeOf0
 v0 := Tryz.zeroValue0
 t3 := Tryz.underlying3
 a3 := Tryz.isAgg3
 z3 := Tryz.sizeOf3
 v3 := Tryz.zeroValue3
 t4 := Tryz.underlying4
 a4 := Tryz.isAgg4
 z4 := Tryz.sizeOf4
 v4 := Tryz.zeroValue4
 t5 := Tryz.underlying5
 a5 := Tryz.isAgg5
 z5 := Tryz.sizeOf5
 v5 := Tryz.zeroValue5
 t9 := Tryz.underlying9
 a9 := Tryz.isAgg9
 z9 := Tryz.sizeOf9
 v9 := Tryz.zeroValue9
 t20 := Tryz.underlying20
 a20 := Tryz.isAgg20
 z20 := Tryz.sizeOf20
 v20 := Tryz.zeroValue20
 t37 := Tryz.underlying72
 a37 := Tryz.isAgg72
 z37 := Tryz.sizeOf72
 v37 := Tryz.zeroValue72
 t46 := Tryz.underlying118
 a46 := Tryz.isAgg118
 z46 := Tryz.sizeOf118
 v46 := Tryz.zeroValue118
 t51 := Tryz.underlying119
 a51 := Tryz.isAgg119
 z51 := Tryz.sizeOf119
 v51 := Tryz.zeroValue119
 t53 := Tryz.underlying60
 a53 := Tryz.isAgg60
 z53 := Tryz.sizeOf60
 v53 := Tryz.zeroValue60
 t70 := Tryz.underlying71
 a70 := Tryz.isAgg71
 z70 := Tryz.sizeOf71
 v70 := Tryz.zeroValue71
 t72 := Tryz.underlying74
 a72 := Tryz.isAgg74
 z72 := Tryz.sizeOf74
 v72 := Tryz.zeroValue74
 t75 := Tryz.underlying77
 a75 := Tryz.isAgg77
 z75 := Tryz.sizeOf77
 v75 := Tryz.zeroValue77
 t76 := Tryz.underlying78
 a76 := Tryz.isAgg78
 z76 := Tryz.sizeOf78
 v76 := Tryz.zeroValue78
 t109 := Tryz.underlying125
 a109 := Tryz.isAgg125
 z109 := Tryz.sizeOf125
 v109 := Tryz.zeroValue125
 t127 := Tryz.underlying92
 a127 := Tryz.isAgg92
 z127 := Tryz.sizeOf92
 v127 := Tryz.zeroValue92
 t146 := Tryz.underlying144
 a146 := Tryz.isAgg144
 z146 := Tryz.sizeOf144
 v146 := Tryz.zeroValue144
 t148 := Tryz.underlying146
 a148 := Tryz.isAgg146
 z148 := Tryz.sizeOf146
 v148 := Tryz.zeroValue146
 t164 := Tryz.underlying110
 a164 := Tryz.isAgg110
 z164 := Tryz.sizeOf110
 v164 := Tryz.zeroValue110 }
theorem Tryz.Builder_Extra_105 : Builder.Extra Tryz.prog Tryz.lays105_ren := {
 sizeBuilder := by kernel_rfl
 liesBuilder := by kernel_rfl
 t5 := Tryz.underlying5
 a5 := Tryz.isAgg5
 z5 := Tryz.sizeOf5
 v5 := Tryz.zeroValue5
 infoByte := by kernel_rfl
 cellsByte := by kernel_rfl
 sizeByte := by kernel_rfl
 neB5 := by decide }
open Go.RowKit Go.Lib in
/-- The library's contract, laid over this program. -/
theorem Tryz.strings_Repeat (s : ByteArray) (c : Nat) (w : World) (hc : c ≤ 9223372036854775807) (hlen : s.size * c ≤ 140737488355328) :
  Calls Tryz.prog 61 #[.string s, .int .i64 c] w fun e w' => e = .returned (.string ⟨(Lib.repeatL s.data.toList c).toArray⟩) ∧ Below w.heap.size w w' := Any.strings_Repeat Tryz.lays105 Tryz.Builder_Extra_105 s c w hc hlen
end Go.Proofs
namespace Go.Proofs.YtneepokiioefgaaGreatDoor.Pools
open Go.RowKit Go.Toks Go.Proofs.YtneepokiioefgaaGreatDoorW.PrintWords Go.Proofs.YtneepokiioefgaaGreatDoorW.PrintLast Go.Proofs.YtneepokiioefgaaGreatDoorW.PrintMore
theorem info9 : (Tryz.prog.info? 9).map (fun i => (i.zero, i.size, i.bytes)) = some (some (.string ⟨#[]⟩), 1, 16) := by kernel_rfl
/-- the table of strconv's powers reads as it should, from w0 on -/
def Pow (w0 : World) : Prop := Lib.TabBelow Tryz.prog w0.heap.size w0 "internal/strconv.uint64pow10" .u64 Lib.pow10Tab
theorem itoa_any (w0 : World) (HT : Pow w0) (n : Int) (h0 : -9223372036854775808 ≤ n) (h1 : n ≤ 9223372036854775807) (w : World) (HB : Below w0.heap.size w0 w) :
  Calls Tryz.prog 25 #[.int .i64 n] w fun e w' => e = .returned (.string ⟨(Lib.itoa n).toArray⟩) ∧ Below w.heap.size w w' := by
 refine (Tryz.strconv_Itoa n h0 h1 w (HT w HB)).mono ?_
 rintro e w' ⟨rfl, k, os, rfl⟩
 exact ⟨rfl, Lib.below_grow w.heap.size w (Nat.le_refl _) k os⟩
theorem row_two (w : World) : Calls Tryz.prog 23 #[.int .i64 3] w fun e w' => e = .returned (.tuple #[.string ⟨#[50, 108, 105, 116]⟩, .int .i64 4]) ∧ w = w' := by
 go_enter Tryz.func23, Tryz.ntmps23
 go_wp2
 go_ret2
 exact ⟨rfl, rfl⟩
set_option maxRecDepth 100000 in
theorem show_two (w0 : World) (HT : Pow w0) (a b : Int) (ha0 : -9223372036854775808 ≤ a) (ha1 : a ≤ 9223372036854775807) (hb0 : -9223372036854775808 ≤ b) (hb1 : b ≤ 9223372036854775807) (name : ByteArray) (w : World) (HB : Below w0.heap.size w0 w)
  (hl : (Lib.join [[50, 108, 105, 116], Lib.itoa a, Lib.itoa b] [32]).length ≤ 140737488355328) :
  Calls Tryz.prog 8 #[.agg #[.int .i64 3, .int .i64 a, .int .i64 b], .string name] w fun e w' => e = .returned (.string ⟨(Lib.join [[50, 108, 105, 116], Lib.itoa a, Lib.itoa b] [32]).toArray⟩) ∧ Below w0.heap.size w0 w' := by
 have HTT := Aside0.mk HT
 have HBB := Aside0.mk HB
 obtain ⟨i0, hi, hz0, hz1, hz2⟩ := info_parts info9
 have hlow := HB.size
 clear HT HB
 go_enter Tryz.func8, Tryz.ntmps8
 go_wp2_with (go_at_call 23; refine (row_two _).mono ?_; rintro e w' ⟨rfl, rfl⟩)
 generalize ewx : (w.alloc (Obj.cells #[Value.int IntKind.i64 3, Value.int IntKind.i64 a, Value.int IntKind.i64 b] 23)).alloc (Obj.cells #[Value.string ⟨#[50, 108, 105, 116]⟩] 9) = wx
 have HBX : Below w0.heap.size w0 wx := by rw [← ewx]; exact below_alloc (below_alloc HBB.out _) _
 have hx1 : wx.cell? ⟨w.heap.size, 1, none⟩ = some (.int .i64 a) := by rw [← ewx]; exact pw_cell_below (below_alloc (Below.refl _ _) _) (by rw [blk_cell (blk_new w _)]; rfl)
 have hx2 : wx.cell? ⟨w.heap.size, 2, none⟩ = some (.int .i64 b) := by rw [← ewx]; exact pw_cell_below (below_alloc (Below.refl _ _) _) (by rw [blk_cell (blk_new w _)]; rfl)
 have hx3 : wx.cell? ⟨w.heap.size + 1, 0, none⟩ = some (.string ⟨#[50, 108, 105, 116]⟩) := by
  rw [← ewx]
  have h_ := blk_new (w.alloc (Obj.cells #[Value.int IntKind.i64 3, Value.int IntKind.i64 a, Value.int IntKind.i64 b] 23)) (Obj.cells #[Value.string ⟨#[50, 108, 105, 116]⟩] 9)
  simp only [World.size_alloc] at h_
  rw [blk_cell h_]; rfl
 clear ewx
 go_region_held3 (fun w' => w'.cell? ⟨w.heap.size, 1, none⟩ = some (.int .i64 a) ∧ w'.cell? ⟨w.heap.size, 2, none⟩ = some (.int .i64 b) ∧ w'.cell? ⟨w.heap.size + 1, 0, none⟩ = some (.string ⟨#[50, 108, 105, 116]⟩) ∧ Below w0.heap.size w0 w')
  (((try go_split_ands); refine ⟨?_, ?_, ?_, ?_⟩ <;> first
   | assumption
   | exact pw_cell_below hb_ (by assumption)
   | exact pw_cell_below (below_drew (Below.refl _ _)) (by assumption)
   | exact pw_cell_below (below_drew (below_alloc (Below.refl _ _) _)) (by assumption)
   | exact pw_cell_below (below_alloc (Below.refl _ _) _) (by assumption)
   | exact below_drew (by assumption)
   | exact below_alloc (by assumption) _
   | exact below_drew (below_alloc (by assumption) _)
   | exact Below.trans (by assumption) (hb_.mono (Below.size (by assumption)))))
  (first
   | (go_at_call 25; go_split_ands; refine (itoa_any w0 HTT.out _ (by assumption) (by assumption) _ (by assumption)).mono ?_; rintro e w' ⟨rfl, hb_⟩)
   | (go_split_ands; refine step_append_grows (by rfl) _ _ 58 (by rfl) 9 i0 _ 1 16 Tryz.underlying58 hi hz0 hz1 hz2 rfl (by decide) (some ⟨w.heap.size + 1, 0, none⟩) 1 1 [.string ⟨#[50, 108, 105, 116]⟩] (by rfl) (by intro h; cases h) rfl (by intro q hq j u hj; cases hq; match j, hj with | 0, hj => (simp at hj; subst hj; simp [Addr.add]; assumption) | (j + 1), hj => simp at hj) ⟨_, 0, none⟩ 2 2 [.string ⟨(Lib.itoa a).toArray⟩, .string ⟨(Lib.itoa b).toArray⟩] (by rfl) (by rfl) (World.news_of_block (cs := #[.string ⟨(Lib.itoa a).toArray⟩, .string ⟨(Lib.itoa b).toArray⟩]) (t := 9) (fr := (0, 0)) (heap_alloc_new _ _)) (by simp [Value.oneCell']) (by omega) (by unfold maxLen; omega) (by omega) ?_; intro v1 w1 hown1 hgrow; have hb_ := pw_below_grown (Below.refl _ _) none (Nat.le_refl _) hgrow (by simp); obtain ⟨gg, cap, rfl, -, hglt⟩ := hown1.form (by omega)))
 (try go_split_ands)
 have HOWN := Aside0.mk hown1
 have HB1 := Aside0.mk (show Below w0.heap.size w0 w1 by first | assumption | exact Below.trans (by assumption) (hb_.mono (Below.size (by assumption))))
 clear hown1 hgrow hb_
 go_wp2_with (go_at_call 26; refine (Tryz.strings_Join gg 0 cap [⟨#[50, 108, 105, 116]⟩, ⟨(Lib.itoa a).toArray⟩, ⟨(Lib.itoa b).toArray⟩] ⟨#[32]⟩ w1 ?hc hglt ?hn ?hcp ?hln).mono ?_; (case hc => (intro j x hj; have h_ := HOWN.out.cells (g := gg) rfl j (.string x) (by match j, hj with | 0, hj => (simp at hj; subst hj; rfl) | 1, hj => (simp at hj; subst hj; rfl) | 2, hj => (simp at hj; subst hj; rfl) | (j + 3), hj => simp at hj); rw [add_at] at h_; exact h_)); (case hn => simp); (case hcp => exact (own_le HOWN.out)); (case hln => simpa using hl); rintro e w' ⟨rfl, hb_⟩)
 go_ret
 exact ⟨rfl, HB1.out.trans (hb_.mono HB1.out.size)⟩
theorem pool_new (T : Nat) (w0 w : World) (HB : Below w0.heap.size w0 w) : PoolAt T (w.alloc (.cells #[.slice none 0 0, .int .i64 0] T)) w0.heap.size (fun k => k = w.heap.size) w.heap.size [] :=
 ⟨fit_nil, rfl, HB.size, none, 0, blk_new w _, Kd.S_nil _ _ _ _ _⟩
theorem new_any (w : World) : Calls Tryz.prog 19 #[] w fun e w' => e = .returned (.pointer (some ⟨w.heap.size, 0, none⟩)) ∧ w' = w.alloc (.cells #[.slice none 0 0, .int .i64 0] 49) := by
 go_enter Tryz.func19, Tryz.ntmps19
 go_wp2
 go_ret
 exact ⟨rfl, rfl⟩
theorem said_len : (Lib.join [[50, 108, 105, 116], Lib.itoa (-1), Lib.itoa 2] [32]).length ≤ 140737488355328 := of_decide_eq_true (by kernel_rfl)
theorem said_two : (⟨(Lib.join [[50, 108, 105, 116], Lib.itoa (-1), Lib.itoa 2] [32]).toArray⟩ : ByteArray) = ⟨#[50, 108, 105, 116, 32, 45, 49, 32, 50]⟩ := by kernel_rfl
set_option maxRecDepth 100000 in
theorem awake_any (w0 : World) (HT : Pow w0) (w : World) (HB : Below w0.heap.size w0 w) :
  Calls Tryz.prog 12 #[] w fun e w' => e = .returned (.bool true) ∧ Below w0.heap.size w0 w' := by
 have HTT := Aside0.mk HT
 have HBB := Aside0.mk HB
 have HP0 := Aside0.mk (pool_new 49 w0 w HB)
 have HB0 := Aside0.mk (below_alloc HB (.cells #[.slice none 0 0, .int .i64 0] 49))
 clear HT HB
 go_enter Tryz.func12, Tryz.ntmps12
 go_wp2_with (first
  | (go_at_call 19; refine (new_any _).mono ?_; rintro e w1 ⟨rfl, rfl⟩)
  | (go_at_call 13; refine (open_any w0 _ _ _ _ HP0.out HB0.out).mono ?_; rintro e w2 ⟨he, hp, hb, -⟩; obtain rfl : e = .returned (.tuple #[.int .i64 1, .int .i64 0]) := he; have HP1 := Aside0.mk hp; have HB1 := Aside0.mk hb; clear hp hb)
  | (go_at_call 14; refine (emit_any w0 _ _ _ _ 1 (2, 5, 0) HP1.out HB1.out).mono ?_; rintro e w3 ⟨he, -, hb, -⟩; obtain rfl : e = .returned (.tuple #[.int .i64 0, .int .i64 0]) := he; have HB2 := Aside0.mk hb; clear hb)
  | (go_at_call 8; refine (show_two w0 HTT.out (-1) 2 (by decide) (by decide) (by decide) (by decide) _ _ HB2.out said_len).mono ?_; rintro e w4 ⟨he, hb⟩; rw [said_two] at he; subst he; have HB3 := Aside0.mk hb; clear hb))
 go_ret
 exact ⟨rfl, HB3.out⟩
/-- a row of bytes as a text -/
def by_ (l : List UInt8) : ByteArray := ⟨l.toArray⟩
/-- the tokens by number: name, and what is shown behind it (0 nothing, 1 a name, 2 a float, 3 one number, 4 two) -/
def rows : List (Int × List UInt8 × Int) := [(1, [99, 97, 108, 108], 1), (2, [108, 105, 116], 3), (3, [50, 108, 105, 116], 4), (4, [102, 108, 105, 116], 2), (5, [116, 101, 120, 116], 4), (6, [106, 117, 109, 112], 3), (7, [48, 106, 117, 109, 112], 3), (8, [100, 111], 0), (9, [63, 100, 111], 3), (10, [108, 111, 111, 112], 3), (11, [43, 108, 111, 111, 112], 3), (12, [108, 101, 97, 118, 101], 3), (13, [111, 102], 3), (14, [101, 120, 105, 116], 0), (15, [100, 111, 101, 115], 0), (16, [112, 111, 115, 116], 1), (17, [108, 111, 99, 97, 108, 115], 4), (18, [108, 111, 99, 97, 108], 3), (19, [116, 111], 3), (20, [97, 98, 111, 114, 116], 4), (21, [120, 116], 1)]
def Row (op : Int) (s : List UInt8) (k : Int) : Prop := (op, s, k) ∈ rows ∨ ((∀ x ∈ rows, x.1 ≠ op) ∧ s = [] ∧ k = 0)
theorem row_of (op : Int) : ∃ s k, Row op s k := by
 by_cases h : ∃ x ∈ rows, x.1 = op
 ·obtain ⟨⟨o, s, k⟩, hx, rfl⟩ := h
  exact ⟨s, k, .inl hx⟩
 ·exact ⟨[], 0, .inr ⟨fun x hx e => h ⟨x, hx, e⟩, rfl, rfl⟩⟩
theorem row_in {op : Int} {s : List UInt8} {k : Int} (h : (op, s, k) ∈ rows) : (op = 1 ∧ s = [99, 97, 108, 108] ∧ k = 1) ∨ (op = 2 ∧ s = [108, 105, 116] ∧ k = 3) ∨ (op = 3 ∧ s = [50, 108, 105, 116] ∧ k = 4) ∨ (op = 4 ∧ s = [102, 108, 105, 116] ∧ k = 2) ∨ (op = 5 ∧ s = [116, 101, 120, 116] ∧ k = 4) ∨ (op = 6 ∧ s = [106, 117, 109, 112] ∧ k = 3) ∨ (op = 7 ∧ s = [48, 106, 117, 109, 112] ∧ k = 3) ∨ (op = 8 ∧ s = [100, 111] ∧ k = 0) ∨ (op = 9 ∧ s = [63, 100, 111] ∧ k = 3) ∨ (op = 10 ∧ s = [108, 111, 111, 112] ∧ k = 3) ∨ (op = 11 ∧ s = [43, 108, 111, 111, 112] ∧ k = 3) ∨ (op = 12 ∧ s = [108, 101, 97, 118, 101] ∧ k = 3) ∨ (op = 13 ∧ s = [111, 102] ∧ k = 3) ∨ (op = 14 ∧ s = [101, 120, 105, 116] ∧ k = 0) ∨ (op = 15 ∧ s = [100, 111, 101, 115] ∧ k = 0) ∨ (op = 16 ∧ s = [112, 111, 115, 116] ∧ k = 1) ∨ (op = 17 ∧ s = [108, 111, 99, 97, 108, 115] ∧ k = 4) ∨ (op = 18 ∧ s = [108, 111, 99, 97, 108] ∧ k = 3) ∨ (op = 19 ∧ s = [116, 111] ∧ k = 3) ∨ (op = 20 ∧ s = [97, 98, 111, 114, 116] ∧ k = 4) ∨ (op = 21 ∧ s = [120, 116] ∧ k = 1) := by
 unfold rows at h
 simp only [List.mem_cons, List.not_mem_nil, or_false, Prod.mk.injEq] at h
 exact h
theorem row_out {op : Int} (h : ∀ x ∈ rows, x.1 ≠ op) : op < 1 ∨ 21 < op := by
 unfold rows at h
 simp only [List.forall_mem_cons] at h
 omega
theorem row_len {op : Int} {s : List UInt8} {k : Int} (h : Row op s k) : s.length ≤ 6 := by
 rcases h with h | ⟨-, rfl, -⟩
 ·rcases row_in h with ⟨-, rfl, -⟩ | ⟨-, rfl, -⟩ | ⟨-, rfl, -⟩ | ⟨-, rfl, -⟩ | ⟨-, rfl, -⟩ | ⟨-, rfl, -⟩ | ⟨-, rfl, -⟩ | ⟨-, rfl, -⟩ | ⟨-, rfl, -⟩ | ⟨-, rfl, -⟩ | ⟨-, rfl, -⟩ | ⟨-, rfl, -⟩ | ⟨-, rfl, -⟩ | ⟨-, rfl, -⟩ | ⟨-, rfl, -⟩ | ⟨-, rfl, -⟩ | ⟨-, rfl, -⟩ | ⟨-, rfl, -⟩ | ⟨-, rfl, -⟩ | ⟨-, rfl, -⟩ | ⟨-, rfl, -⟩ <;> decide
 ·decide
theorem row_kind {op : Int} {s : List UInt8} {k : Int} (h : Row op s k) : k = 0 ∨ k = 1 ∨ k = 2 ∨ k = 3 ∨ k = 4 := by
 rcases h with h | ⟨-, -, rfl⟩
 ·rcases row_in h with ⟨-, -, rfl⟩ | ⟨-, -, rfl⟩ | ⟨-, -, rfl⟩ | ⟨-, -, rfl⟩ | ⟨-, -, rfl⟩ | ⟨-, -, rfl⟩ | ⟨-, -, rfl⟩ | ⟨-, -, rfl⟩ | ⟨-, -, rfl⟩ | ⟨-, -, rfl⟩ | ⟨-, -, rfl⟩ | ⟨-, -, rfl⟩ | ⟨-, -, rfl⟩ | ⟨-, -, rfl⟩ | ⟨-, -, rfl⟩ | ⟨-, -, rfl⟩ | ⟨-, -, rfl⟩ | ⟨-, -, rfl⟩ | ⟨-, -, rfl⟩ | ⟨-, -, rfl⟩ | ⟨-, -, rfl⟩ <;> decide
 ·decide
set_option maxRecDepth 100000 in
theorem row_none (w : World) (op : Int) (h : op < 1 ∨ 21 < op) : Calls Tryz.prog 23 #[.int .i64 op] w fun e w' => e = .returned (.tuple #[.string (by_ []), .int .i64 0]) ∧ w' = w := by
 have n1 : (op == 1) = false := by rw [beq_eq_false_iff_ne]; omega
 have m1 := decide_eq_false (show ¬ op = 1 by omega)
 have q1 : ¬ op = 1 := by omega
 have n2 : (op == 2) = false := by rw [beq_eq_false_iff_ne]; omega
 have m2 := decide_eq_false (show ¬ op = 2 by omega)
 have q2 : ¬ op = 2 := by omega
 have n3 : (op == 3) = false := by rw [beq_eq_false_iff_ne]; omega
 have m3 := decide_eq_false (show ¬ op = 3 by omega)
 have q3 : ¬ op = 3 := by omega
 have n4 : (op == 4) = false := by rw [beq_eq_false_iff_ne]; omega
 have m4 := decide_eq_false (show ¬ op = 4 by omega)
 have q4 : ¬ op = 4 := by omega
 have n5 : (op == 5) = false := by rw [beq_eq_false_iff_ne]; omega
 have m5 := decide_eq_false (show ¬ op = 5 by omega)
 have q5 : ¬ op = 5 := by omega
 have n6 : (op == 6) = false := by rw [beq_eq_false_iff_ne]; omega
 have m6 := decide_eq_false (show ¬ op = 6 by omega)
 have q6 : ¬ op = 6 := by omega
 have n7 : (op == 7) = false := by rw [beq_eq_false_iff_ne]; omega
 have m7 := decide_eq_false (show ¬ op = 7 by omega)
 have q7 : ¬ op = 7 := by omega
 have n8 : (op == 8) = false := by rw [beq_eq_false_iff_ne]; omega
 have m8 := decide_eq_false (show ¬ op = 8 by omega)
 have q8 : ¬ op = 8 := by omega
 have n9 : (op == 9) = false := by rw [beq_eq_false_iff_ne]; omega
 have m9 := decide_eq_false (show ¬ op = 9 by omega)
 have q9 : ¬ op = 9 := by omega
 have n10 : (op == 10) = false := by rw [beq_eq_false_iff_ne]; omega
 have m10 := decide_eq_false (show ¬ op = 10 by omega)
 have q10 : ¬ op = 10 := by omega
 have n11 : (op == 11) = false := by rw [beq_eq_false_iff_ne]; omega
 have m11 := decide_eq_false (show ¬ op = 11 by omega)
 have q11 : ¬ op = 11 := by omega
 have n12 : (op == 12) = false := by rw [beq_eq_false_iff_ne]; omega
 have m12 := decide_eq_false (show ¬ op = 12 by omega)
 have q12 : ¬ op = 12 := by omega
 have n13 : (op == 13) = false := by rw [beq_eq_false_iff_ne]; omega
 have m13 := decide_eq_false (show ¬ op = 13 by omega)
 have q13 : ¬ op = 13 := by omega
 have n14 : (op == 14) = false := by rw [beq_eq_false_iff_ne]; omega
 have m14 := decide_eq_false (show ¬ op = 14 by omega)
 have q14 : ¬ op = 14 := by omega
 have n15 : (op == 15) = false := by rw [beq_eq_false_iff_ne]; omega
 have m15 := decide_eq_false (show ¬ op = 15 by omega)
 have q15 : ¬ op = 15 := by omega
 have n16 : (op == 16) = false := by rw [beq_eq_false_iff_ne]; omega
 have m16 := decide_eq_false (show ¬ op = 16 by omega)
 have q16 : ¬ op = 16 := by omega
 have n17 : (op == 17) = false := by rw [beq_eq_false_iff_ne]; omega
 have m17 := decide_eq_false (show ¬ op = 17 by omega)
 have q17 : ¬ op = 17 := by omega
 have n18 : (op == 18) = false := by rw [beq_eq_false_iff_ne]; omega
 have m18 := decide_eq_false (show ¬ op = 18 by omega)
 have q18 : ¬ op = 18 := by omega
 have n19 : (op == 19) = false := by rw [beq_eq_false_iff_ne]; omega
 have m19 := decide_eq_false (show ¬ op = 19 by omega)
 have q19 : ¬ op = 19 := by omega
 have n20 : (op == 20) = false := by rw [beq_eq_false_iff_ne]; omega
 have m20 := decide_eq_false (show ¬ op = 20 by omega)
 have q20 : ¬ op = 20 := by omega
 have n21 : (op == 21) = false := by rw [beq_eq_false_iff_ne]; omega
 have m21 := decide_eq_false (show ¬ op = 21 by omega)
 have q21 : ¬ op = 21 := by omega
 clear h
 go_enter Tryz.func23, Tryz.ntmps23
 go_wp2
 go_ret2
 exact ⟨rfl, rfl⟩
set_option maxRecDepth 100000 in
theorem row_any {op : Int} {s : List UInt8} {k : Int} (h : Row op s k) (w : World) : Calls Tryz.prog 23 #[.int .i64 op] w fun e w' => e = .returned (.tuple #[.string (by_ s), .int .i64 k]) ∧ w' = w := by
 rcases h with h | ⟨h, rfl, rfl⟩
 ·rcases row_in h with ⟨rfl, rfl, rfl⟩ | ⟨rfl, rfl, rfl⟩ | ⟨rfl, rfl, rfl⟩ | ⟨rfl, rfl, rfl⟩ | ⟨rfl, rfl, rfl⟩ | ⟨rfl, rfl, rfl⟩ | ⟨rfl, rfl, rfl⟩ | ⟨rfl, rfl, rfl⟩ | ⟨rfl, rfl, rfl⟩ | ⟨rfl, rfl, rfl⟩ | ⟨rfl, rfl, rfl⟩ | ⟨rfl, rfl, rfl⟩ | ⟨rfl, rfl, rfl⟩ | ⟨rfl, rfl, rfl⟩ | ⟨rfl, rfl, rfl⟩ | ⟨rfl, rfl, rfl⟩ | ⟨rfl, rfl, rfl⟩ | ⟨rfl, rfl, rfl⟩ | ⟨rfl, rfl, rfl⟩ | ⟨rfl, rfl, rfl⟩ | ⟨rfl, rfl, rfl⟩ <;> (clear h; go_enter Tryz.func23, Tryz.ntmps23; go_wp2; go_ret2; exact ⟨rfl, rfl⟩)
 ·exact row_none w op (row_out h)
/-- the jumps -/
def jumpB (op : Int) : Bool := decide (op ∈ ([6, 7, 9, 10, 11, 13] : List Int))
set_option maxRecDepth 100000 in
theorem t_jumps (op : Int) (w : World) : Calls Tryz.prog 10 #[.int .i64 op] w fun e w' => e = .returned (.bool (jumpB op)) ∧ w' = w := by
 by_cases h : op ∈ ([6, 7, 9, 10, 11, 13] : List Int)
 ·have e : jumpB op = true := decide_eq_true h
  rw [e]
  simp only [List.mem_cons, List.not_mem_nil, or_false] at h
  clear e
  rcases h with rfl | rfl | rfl | rfl | rfl | rfl <;> (go_enter Tryz.func10, Tryz.ntmps10; go_wp2; go_ret; exact ⟨rfl, rfl⟩)
 ·have e : jumpB op = false := decide_eq_false h
  rw [e]
  simp only [List.mem_cons, List.not_mem_nil, or_false, not_or] at h
  have n6 : (op == 6) = false := by rw [beq_eq_false_iff_ne]; omega
  have m6 := decide_eq_false (show ¬ op = 6 by omega)
  have q6 : ¬ op = 6 := by omega
  have n7 : (op == 7) = false := by rw [beq_eq_false_iff_ne]; omega
  have m7 := decide_eq_false (show ¬ op = 7 by omega)
  have q7 : ¬ op = 7 := by omega
  have n9 : (op == 9) = false := by rw [beq_eq_false_iff_ne]; omega
  have m9 := decide_eq_false (show ¬ op = 9 by omega)
  have q9 : ¬ op = 9 := by omega
  have n10 : (op == 10) = false := by rw [beq_eq_false_iff_ne]; omega
  have m10 := decide_eq_false (show ¬ op = 10 by omega)
  have q10 : ¬ op = 10 := by omega
  have n11 : (op == 11) = false := by rw [beq_eq_false_iff_ne]; omega
  have m11 := decide_eq_false (show ¬ op = 11 by omega)
  have q11 : ¬ op = 11 := by omega
  have n13 : (op == 13) = false := by rw [beq_eq_false_iff_ne]; omega
  have m13 := decide_eq_false (show ¬ op = 13 by omega)
  have q13 : ¬ op = 13 := by omega
  clear e h
  go_enter Tryz.func10, Tryz.ntmps10
  go_wp2
  go_ret
  exact ⟨rfl, rfl⟩
set_option maxRecDepth 100000 in
theorem r_jumps (op : Int) (w : World) : Calls Tryz.prog 11 #[.int .i64 op] w fun e w' => e = .returned (.bool (jumpB op)) ∧ w' = w := by
 by_cases h : op ∈ ([6, 7, 9, 10, 11, 13] : List Int)
 ·have e : jumpB op = true := decide_eq_true h
  rw [e]
  simp only [List.mem_cons, List.not_mem_nil, or_false] at h
  clear e
  rcases h with rfl | rfl | rfl | rfl | rfl | rfl <;> (go_enter Tryz.func11, Tryz.ntmps11; go_wp2; go_ret; exact ⟨rfl, rfl⟩)
 ·have e : jumpB op = false := decide_eq_false h
  rw [e]
  simp only [List.mem_cons, List.not_mem_nil, or_false, not_or] at h
  have n6 : (op == 6) = false := by rw [beq_eq_false_iff_ne]; omega
  have m6 := decide_eq_false (show ¬ op = 6 by omega)
  have q6 : ¬ op = 6 := by omega
  have n7 : (op == 7) = false := by rw [beq_eq_false_iff_ne]; omega
  have m7 := decide_eq_false (show ¬ op = 7 by omega)
  have q7 : ¬ op = 7 := by omega
  have n9 : (op == 9) = false := by rw [beq_eq_false_iff_ne]; omega
  have m9 := decide_eq_false (show ¬ op = 9 by omega)
  have q9 : ¬ op = 9 := by omega
  have n10 : (op == 10) = false := by rw [beq_eq_false_iff_ne]; omega
  have m10 := decide_eq_false (show ¬ op = 10 by omega)
  have q10 : ¬ op = 10 := by omega
  have n11 : (op == 11) = false := by rw [beq_eq_false_iff_ne]; omega
  have m11 := decide_eq_false (show ¬ op = 11 by omega)
  have q11 : ¬ op = 11 := by omega
  have n13 : (op == 13) = false := by rw [beq_eq_false_iff_ne]; omega
  have m13 := decide_eq_false (show ¬ op = 13 by omega)
  have q13 : ¬ op = 13 := by omega
  clear e h
  go_enter Tryz.func11, Tryz.ntmps11
  go_wp2
  go_ret
  exact ⟨rfl, rfl⟩
set_option maxRecDepth 100000 in
/-- nothing behind the name -/
theorem show_bare (w0 : World) {op : Int} {s : List UInt8} (hr : Row op s 0) (a b : Int) (name : List UInt8) (w : World) (HB : Below w0.heap.size w0 w)
  (hl : (Lib.join [s] [32]).length ≤ 140737488355328) :
  Calls Tryz.prog 8 #[.agg #[.int .i64 op, .int .i64 a, .int .i64 b], .string (by_ name)] w fun e w' => e = .returned (.string (by_ (Lib.join [s] [32]))) ∧ Below w0.heap.size w0 w' := by
 have HBB := Aside0.mk HB
 have HR := Aside0.mk (fun w => row_any hr w)
 obtain ⟨i0, hi, hz0, hz1, hz2⟩ := info_parts info9
 have hlow := HB.size
 have HJ : Aside0 (∀ (gg cap : Nat) (w1 : World), gg < w1.heap.size → 1 ≤ cap → (∀ (j : Nat) (x : ByteArray), [by_ s][j]? = some x → w1.cell? ⟨gg, 0 + j, none⟩ = some (.string x)) → Calls Tryz.prog 26 #[.slice (some ⟨gg, 0, none⟩) 1 cap, .string ⟨#[32]⟩] w1 fun e w' => e = .returned (.string (by_ (Lib.join [s] [32]))) ∧ Below w1.heap.size w1 w') :=
  ⟨fun gg cap w1 h1 h2 h4 => Tryz.strings_Join gg 0 cap [by_ s] ⟨#[32]⟩ w1 h4 h1 (by simp) h2 (by simpa [by_] using hl)⟩
 obtain ⟨v, hv⟩ : ∃ z, by_ (Lib.join [s] [32]) = z := ⟨_, rfl⟩
 rw [hv] at HJ ⊢
 obtain ⟨sb, hsb⟩ : ∃ z, by_ s = z := ⟨_, rfl⟩
 rw [hsb] at HJ HR
 obtain ⟨nb, hnb⟩ : ∃ z, by_ name = z := ⟨_, rfl⟩
 rw [hnb]
 clear hnb
 clear HB hr hl hv hsb
 go_enter Tryz.func8, Tryz.ntmps8
 go_upto_region 12 with (go_at_call 23; refine (HR.out _).mono ?_; rintro e w' ⟨rfl, hw⟩; obtain rfl := hw.symm)
 generalize ewx : (w.alloc (Obj.cells #[Value.int IntKind.i64 op, Value.int IntKind.i64 a, Value.int IntKind.i64 b] 23)).alloc (Obj.cells #[Value.string sb] 9) = wx
 have HBX := Aside0.mk (show Below w0.heap.size w0 wx by rw [← ewx]; exact below_alloc (below_alloc HBB.out _) _)
 have hx1 : wx.cell? ⟨w.heap.size, 1, none⟩ = some (.int .i64 a) := by rw [← ewx]; exact pw_cell_below (below_alloc (Below.refl _ _) _) (by rw [blk_cell (blk_new w _)]; rfl)
 have hx2 : wx.cell? ⟨w.heap.size, 2, none⟩ = some (.int .i64 b) := by rw [← ewx]; exact pw_cell_below (below_alloc (Below.refl _ _) _) (by rw [blk_cell (blk_new w _)]; rfl)
 have hx3 : wx.cell? ⟨w.heap.size + 1, 0, none⟩ = some (.string sb) := by
  rw [← ewx]
  have h_ := blk_new (w.alloc (Obj.cells #[Value.int IntKind.i64 op, Value.int IntKind.i64 a, Value.int IntKind.i64 b] 23)) (Obj.cells #[Value.string sb] 9)
  simp only [World.size_alloc] at h_
  rw [blk_cell h_]; rfl
 have hxs : w.heap.size + 1 < wx.heap.size := by rw [← ewx]; simp only [World.size_alloc]; omega
 clear ewx
 have HB1 := HBX
 go_wp2_with (go_at_call 26; refine (HJ.out _ 1 _ hxs (by decide) (by intro j x hj; match j, hj with | 0, hj => (simp at hj; subst hj; exact hx3) | (j + 1), hj => simp at hj)).mono ?_; rintro e w' ⟨rfl, hb_⟩; have HBZ := Aside0.mk (HB1.out.trans (hb_.mono HB1.out.size)); clear hb_)
 go_ret
 exact ⟨rfl, HBZ.out⟩
set_option maxRecDepth 100000 in
/-- a name behind the name -/
theorem show_named (w0 : World) {op : Int} {s : List UInt8} (hr : Row op s 1) (a b : Int) (name : List UInt8) (w : World) (HB : Below w0.heap.size w0 w)
  (hl : (Lib.join [s, name] [32]).length ≤ 140737488355328) :
  Calls Tryz.prog 8 #[.agg #[.int .i64 op, .int .i64 a, .int .i64 b], .string (by_ name)] w fun e w' => e = .returned (.string (by_ (Lib.join [s, name] [32]))) ∧ Below w0.heap.size w0 w' := by
 have HBB := Aside0.mk HB
 have HR := Aside0.mk (fun w => row_any hr w)
 obtain ⟨i0, hi, hz0, hz1, hz2⟩ := info_parts info9
 have hlow := HB.size
 have HJ : Aside0 (∀ (gg cap : Nat) (w1 : World), gg < w1.heap.size → 2 ≤ cap → (∀ (j : Nat) (x : ByteArray), [by_ s, by_ name][j]? = some x → w1.cell? ⟨gg, 0 + j, none⟩ = some (.string x)) → Calls Tryz.prog 26 #[.slice (some ⟨gg, 0, none⟩) 2 cap, .string ⟨#[32]⟩] w1 fun e w' => e = .returned (.string (by_ (Lib.join [s, name] [32]))) ∧ Below w1.heap.size w1 w') :=
  ⟨fun gg cap w1 h1 h2 h4 => Tryz.strings_Join gg 0 cap [by_ s, by_ name] ⟨#[32]⟩ w1 h4 h1 (by simp) h2 (by simpa [by_] using hl)⟩
 obtain ⟨v, hv⟩ : ∃ z, by_ (Lib.join [s, name] [32]) = z := ⟨_, rfl⟩
 rw [hv] at HJ ⊢
 obtain ⟨sb, hsb⟩ : ∃ z, by_ s = z := ⟨_, rfl⟩
 rw [hsb] at HJ HR
 obtain ⟨t0, ht0⟩ : ∃ z, by_ name = z := ⟨_, rfl⟩
 rw [ht0] at HJ ⊢
 clear HB hr hl hv hsb ht0
 go_enter Tryz.func8, Tryz.ntmps8
 go_upto_region 5 with (go_at_call 23; refine (HR.out _).mono ?_; rintro e w' ⟨rfl, hw⟩; obtain rfl := hw.symm)
 generalize ewx : (w.alloc (Obj.cells #[Value.int IntKind.i64 op, Value.int IntKind.i64 a, Value.int IntKind.i64 b] 23)).alloc (Obj.cells #[Value.string sb] 9) = wx
 have HBX := Aside0.mk (show Below w0.heap.size w0 wx by rw [← ewx]; exact below_alloc (below_alloc HBB.out _) _)
 have hx1 : wx.cell? ⟨w.heap.size, 1, none⟩ = some (.int .i64 a) := by rw [← ewx]; exact pw_cell_below (below_alloc (Below.refl _ _) _) (by rw [blk_cell (blk_new w _)]; rfl)
 have hx2 : wx.cell? ⟨w.heap.size, 2, none⟩ = some (.int .i64 b) := by rw [← ewx]; exact pw_cell_below (below_alloc (Below.refl _ _) _) (by rw [blk_cell (blk_new w _)]; rfl)
 have hx3 : wx.cell? ⟨w.heap.size + 1, 0, none⟩ = some (.string sb) := by
  rw [← ewx]
  have h_ := blk_new (w.alloc (Obj.cells #[Value.int IntKind.i64 op, Value.int IntKind.i64 a, Value.int IntKind.i64 b] 23)) (Obj.cells #[Value.string sb] 9)
  simp only [World.size_alloc] at h_
  rw [blk_cell h_]; rfl
 have hxs : w.heap.size + 1 < wx.heap.size := by rw [← ewx]; simp only [World.size_alloc]; omega
 clear ewx
 go_wp2_with (first
   | (at_builtin; refine wpList_append_grows _ rfl (.tmp 19) (.tmp 21) 58 rfl 9 i0 _ 1 16 Tryz.underlying58 hi hz0 hz1 hz2 rfl (by decide) (some ⟨w.heap.size + 1, 0, none⟩) 1 1 [.string sb] rfl (by intro h; cases h) rfl (by intro q hq j u hj; cases hq; match j, hj with | 0, hj => (simp at hj; subst hj; simp [Addr.add]; first | assumption | exact pw_cell_below (below_alloc (Below.refl _ _) _) (by assumption)) | (j + 1), hj => simp at hj) ⟨_, 0, none⟩ 1 1 [.string t0] rfl rfl (World.news_of_block (cs := #[.string t0]) (t := 9) (fr := (0, 0)) (heap_alloc_new _ _)) (by simp [Value.oneCell']) (by omega) (by unfold maxLen; omega) (by omega) ?_; intro v1 w1 hown1 hgrow; have HB1 := Aside0.mk (pw_below_grown (Below.trans HBX.out ((below_alloc (Below.refl _ _) _).mono HBX.out.size)) none (Nat.le_trans HBX.out.size (Below.size (below_alloc (Below.refl _ _) _))) hgrow (by simp)); obtain ⟨gg, cap, rfl, -, hglt⟩ := hown1.form (by omega); have HOWN := Aside0.mk hown1; clear hown1 hgrow)
   | (go_at_call 26; refine (HJ.out gg cap w1 hglt ?hn ?hj).mono ?_; (case hn => exact own_le HOWN.out); (case hj => (intro j x hj; have h_ := HOWN.out.cells (g := gg) rfl j (.string x) (by match j, hj with | 0, hj => (simp at hj; subst hj; rfl) | 1, hj => (simp at hj; subst hj; rfl) | (j + 2), hj => simp at hj); rw [add_at] at h_; exact h_)); rintro e w' ⟨rfl, hb_⟩; have HBZ := Aside0.mk (HB1.out.trans (hb_.mono HB1.out.size)); clear hb_))
 go_ret
 exact ⟨rfl, HBZ.out⟩
set_option maxRecDepth 100000 in
/-- a number behind the name -/
theorem show_one (w0 : World) (HT : Pow w0) {op : Int} {s : List UInt8} (hr : Row op s 3) (a b : Int) (ha0 : -9223372036854775808 ≤ a) (ha1 : a ≤ 9223372036854775807) (name : List UInt8) (w : World) (HB : Below w0.heap.size w0 w)
  (hl : (Lib.join [s, Lib.itoa a] [32]).length ≤ 140737488355328) :
  Calls Tryz.prog 8 #[.agg #[.int .i64 op, .int .i64 a, .int .i64 b], .string (by_ name)] w fun e w' => e = .returned (.string (by_ (Lib.join [s, Lib.itoa a] [32]))) ∧ Below w0.heap.size w0 w' := by
 have HI : Aside0 (∀ w, Below w0.heap.size w0 w → Calls Tryz.prog 25 #[.int .i64 a] w fun e w' => e = .returned (.string (by_ (Lib.itoa a))) ∧ Below w.heap.size w w') := ⟨fun w hb => itoa_any w0 HT _ ha0 ha1 w hb⟩
 have HBB := Aside0.mk HB
 have HR := Aside0.mk (fun w => row_any hr w)
 obtain ⟨i0, hi, hz0, hz1, hz2⟩ := info_parts info9
 have hlow := HB.size
 have HJ : Aside0 (∀ (gg cap : Nat) (w1 : World), gg < w1.heap.size → 2 ≤ cap → (∀ (j : Nat) (x : ByteArray), [by_ s, by_ (Lib.itoa a)][j]? = some x → w1.cell? ⟨gg, 0 + j, none⟩ = some (.string x)) → Calls Tryz.prog 26 #[.slice (some ⟨gg, 0, none⟩) 2 cap, .string ⟨#[32]⟩] w1 fun e w' => e = .returned (.string (by_ (Lib.join [s, Lib.itoa a] [32]))) ∧ Below w1.heap.size w1 w') :=
  ⟨fun gg cap w1 h1 h2 h4 => Tryz.strings_Join gg 0 cap [by_ s, by_ (Lib.itoa a)] ⟨#[32]⟩ w1 h4 h1 (by simp) h2 (by simpa [by_] using hl)⟩
 obtain ⟨v, hv⟩ : ∃ z, by_ (Lib.join [s, Lib.itoa a] [32]) = z := ⟨_, rfl⟩
 rw [hv] at HJ ⊢
 obtain ⟨sb, hsb⟩ : ∃ z, by_ s = z := ⟨_, rfl⟩
 rw [hsb] at HJ HR
 obtain ⟨t0, ht0⟩ : ∃ z, by_ (Lib.itoa a) = z := ⟨_, rfl⟩
 rw [ht0] at HJ HI
 obtain ⟨nb, hnb⟩ : ∃ z, by_ name = z := ⟨_, rfl⟩
 rw [hnb]
 clear hnb
 clear HB hr hl hv hsb ht0 HT ha0 ha1
 go_enter Tryz.func8, Tryz.ntmps8
 go_upto_region 9 with (go_at_call 23; refine (HR.out _).mono ?_; rintro e w' ⟨rfl, hw⟩; obtain rfl := hw.symm)
 generalize ewx : (w.alloc (Obj.cells #[Value.int IntKind.i64 op, Value.int IntKind.i64 a, Value.int IntKind.i64 b] 23)).alloc (Obj.cells #[Value.string sb] 9) = wx
 have HBX := Aside0.mk (show Below w0.heap.size w0 wx by rw [← ewx]; exact below_alloc (below_alloc HBB.out _) _)
 have hx1 : wx.cell? ⟨w.heap.size, 1, none⟩ = some (.int .i64 a) := by rw [← ewx]; exact pw_cell_below (below_alloc (Below.refl _ _) _) (by rw [blk_cell (blk_new w _)]; rfl)
 have hx2 : wx.cell? ⟨w.heap.size, 2, none⟩ = some (.int .i64 b) := by rw [← ewx]; exact pw_cell_below (below_alloc (Below.refl _ _) _) (by rw [blk_cell (blk_new w _)]; rfl)
 have hx3 : wx.cell? ⟨w.heap.size + 1, 0, none⟩ = some (.string sb) := by
  rw [← ewx]
  have h_ := blk_new (w.alloc (Obj.cells #[Value.int IntKind.i64 op, Value.int IntKind.i64 a, Value.int IntKind.i64 b] 23)) (Obj.cells #[Value.string sb] 9)
  simp only [World.size_alloc] at h_
  rw [blk_cell h_]; rfl
 have hxs : w.heap.size + 1 < wx.heap.size := by rw [← ewx]; simp only [World.size_alloc]; omega
 clear ewx
 go_wp2_with (first
   | (go_at_call 25; refine (HI.out _ HBX.out).mono ?_; rintro e w2 ⟨rfl, hb_⟩; have hy3 := pw_cell_below hb_ hx3; have n0_ := Aside0.mk (HBX.out.trans (hb_.mono HBX.out.size)); clear HBX hb_; have HBX := n0_; clear n0_)
   | (at_builtin; refine wpList_append_grows _ rfl (.tmp 34) (.tmp 38) 58 rfl 9 i0 _ 1 16 Tryz.underlying58 hi hz0 hz1 hz2 rfl (by decide) (some ⟨w.heap.size + 1, 0, none⟩) 1 1 [.string sb] rfl (by intro h; cases h) rfl (by intro q hq j u hj; cases hq; match j, hj with | 0, hj => (simp at hj; subst hj; simp [Addr.add]; first | assumption | exact pw_cell_below (below_alloc (Below.refl _ _) _) (by assumption)) | (j + 1), hj => simp at hj) ⟨_, 0, none⟩ 1 1 [.string t0] rfl rfl (World.news_of_block (cs := #[.string t0]) (t := 9) (fr := (0, 0)) (heap_alloc_new _ _)) (by simp [Value.oneCell']) (by omega) (by unfold maxLen; omega) (by omega) ?_; intro v1 w1 hown1 hgrow; have HB1 := Aside0.mk (pw_below_grown (Below.trans HBX.out ((below_alloc (Below.refl _ _) _).mono HBX.out.size)) none (Nat.le_trans HBX.out.size (Below.size (below_alloc (Below.refl _ _) _))) hgrow (by simp)); obtain ⟨gg, cap, rfl, -, hglt⟩ := hown1.form (by omega); have HOWN := Aside0.mk hown1; clear hown1 hgrow)
   | (go_at_call 26; refine (HJ.out gg cap w1 hglt ?hn ?hj).mono ?_; (case hn => exact own_le HOWN.out); (case hj => (intro j x hj; have h_ := HOWN.out.cells (g := gg) rfl j (.string x) (by match j, hj with | 0, hj => (simp at hj; subst hj; rfl) | 1, hj => (simp at hj; subst hj; rfl) | (j + 2), hj => simp at hj); rw [add_at] at h_; exact h_)); rintro e w' ⟨rfl, hb_⟩; have HBZ := Aside0.mk (HB1.out.trans (hb_.mono HB1.out.size)); clear hb_))
 go_ret
 exact ⟨rfl, HBZ.out⟩
set_option maxRecDepth 100000 in
/-- a float behind the name -/
theorem show_float (w0 : World) {op : Int} {s : List UInt8} (hr : Row op s 2) (a b : Int) (u : Int) (hu : IntKind.u64.wrap a = u) (X : List UInt8) (HS : Aside0 (∀ w, Below w0.heap.size w0 w → Calls Tryz.prog 24 #[.int .u64 u, .int .i64 17] w fun e w' => e = .returned (.string (by_ X)) ∧ Below w.heap.size w w')) (name : List UInt8) (w : World) (HB : Below w0.heap.size w0 w)
  (hl : (Lib.join [s, X] [32]).length ≤ 140737488355328) :
  Calls Tryz.prog 8 #[.agg #[.int .i64 op, .int .i64 a, .int .i64 b], .string (by_ name)] w fun e w' => e = .returned (.string (by_ (Lib.join [s, X] [32]))) ∧ Below w0.heap.size w0 w' := by
 have HBB := Aside0.mk HB
 have HR := Aside0.mk (fun w => row_any hr w)
 obtain ⟨i0, hi, hz0, hz1, hz2⟩ := info_parts info9
 have hlow := HB.size
 have HJ : Aside0 (∀ (gg cap : Nat) (w1 : World), gg < w1.heap.size → 2 ≤ cap → (∀ (j : Nat) (x : ByteArray), [by_ s, by_ X][j]? = some x → w1.cell? ⟨gg, 0 + j, none⟩ = some (.string x)) → Calls Tryz.prog 26 #[.slice (some ⟨gg, 0, none⟩) 2 cap, .string ⟨#[32]⟩] w1 fun e w' => e = .returned (.string (by_ (Lib.join [s, X] [32]))) ∧ Below w1.heap.size w1 w') :=
  ⟨fun gg cap w1 h1 h2 h4 => Tryz.strings_Join gg 0 cap [by_ s, by_ X] ⟨#[32]⟩ w1 h4 h1 (by simp) h2 (by simpa [by_] using hl)⟩
 obtain ⟨v, hv⟩ : ∃ z, by_ (Lib.join [s, X] [32]) = z := ⟨_, rfl⟩
 rw [hv] at HJ ⊢
 obtain ⟨sb, hsb⟩ : ∃ z, by_ s = z := ⟨_, rfl⟩
 rw [hsb] at HJ HR
 obtain ⟨t0, ht0⟩ : ∃ z, by_ X = z := ⟨_, rfl⟩
 rw [ht0] at HJ HS
 obtain ⟨nb, hnb⟩ : ∃ z, by_ name = z := ⟨_, rfl⟩
 rw [hnb]
 clear hnb
 clear HB hr hl hv hsb ht0
 go_enter Tryz.func8, Tryz.ntmps8
 go_upto_region 7 with (go_at_call 23; refine (HR.out _).mono ?_; rintro e w' ⟨rfl, hw⟩; obtain rfl := hw.symm)
 generalize ewx : (w.alloc (Obj.cells #[Value.int IntKind.i64 op, Value.int IntKind.i64 a, Value.int IntKind.i64 b] 23)).alloc (Obj.cells #[Value.string sb] 9) = wx
 have HBX := Aside0.mk (show Below w0.heap.size w0 wx by rw [← ewx]; exact below_alloc (below_alloc HBB.out _) _)
 have hx1 : wx.cell? ⟨w.heap.size, 1, none⟩ = some (.int .i64 a) := by rw [← ewx]; exact pw_cell_below (below_alloc (Below.refl _ _) _) (by rw [blk_cell (blk_new w _)]; rfl)
 have hx2 : wx.cell? ⟨w.heap.size, 2, none⟩ = some (.int .i64 b) := by rw [← ewx]; exact pw_cell_below (below_alloc (Below.refl _ _) _) (by rw [blk_cell (blk_new w _)]; rfl)
 have hx3 : wx.cell? ⟨w.heap.size + 1, 0, none⟩ = some (.string sb) := by
  rw [← ewx]
  have h_ := blk_new (w.alloc (Obj.cells #[Value.int IntKind.i64 op, Value.int IntKind.i64 a, Value.int IntKind.i64 b] 23)) (Obj.cells #[Value.string sb] 9)
  simp only [World.size_alloc] at h_
  rw [blk_cell h_]; rfl
 have hxs : w.heap.size + 1 < wx.heap.size := by rw [← ewx]; simp only [World.size_alloc]; omega
 clear ewx
 go_wp2_with (first
   | (go_at_call 24; refine (HS.out _ HBX.out).mono ?_; rintro e w2 ⟨rfl, hb_⟩; have hy3 := pw_cell_below hb_ hx3; have n0_ := Aside0.mk (HBX.out.trans (hb_.mono HBX.out.size)); clear HBX hb_; have HBX := n0_; clear n0_)
   | (at_builtin; refine wpList_append_grows _ rfl (.tmp 25) (.tmp 30) 58 rfl 9 i0 _ 1 16 Tryz.underlying58 hi hz0 hz1 hz2 rfl (by decide) (some ⟨w.heap.size + 1, 0, none⟩) 1 1 [.string sb] rfl (by intro h; cases h) rfl (by intro q hq j u hj; cases hq; match j, hj with | 0, hj => (simp at hj; subst hj; simp [Addr.add]; first | assumption | exact pw_cell_below (below_alloc (Below.refl _ _) _) (by assumption)) | (j + 1), hj => simp at hj) ⟨_, 0, none⟩ 1 1 [.string t0] rfl rfl (World.news_of_block (cs := #[.string t0]) (t := 9) (fr := (0, 0)) (heap_alloc_new _ _)) (by simp [Value.oneCell']) (by omega) (by unfold maxLen; omega) (by omega) ?_; intro v1 w1 hown1 hgrow; have HB1 := Aside0.mk (pw_below_grown (Below.trans HBX.out ((below_alloc (Below.refl _ _) _).mono HBX.out.size)) none (Nat.le_trans HBX.out.size (Below.size (below_alloc (Below.refl _ _) _))) hgrow (by simp)); obtain ⟨gg, cap, rfl, -, hglt⟩ := hown1.form (by omega); have HOWN := Aside0.mk hown1; clear hown1 hgrow)
   | (go_at_call 26; refine (HJ.out gg cap w1 hglt ?hn ?hj).mono ?_; (case hn => exact own_le HOWN.out); (case hj => (intro j x hj; have h_ := HOWN.out.cells (g := gg) rfl j (.string x) (by match j, hj with | 0, hj => (simp at hj; subst hj; rfl) | 1, hj => (simp at hj; subst hj; rfl) | (j + 2), hj => simp at hj); rw [add_at] at h_; exact h_)); rintro e w' ⟨rfl, hb_⟩; have HBZ := Aside0.mk (HB1.out.trans (hb_.mono HB1.out.size)); clear hb_))
 go_ret
 exact ⟨rfl, HBZ.out⟩
set_option maxRecDepth 100000 in
/-- two numbers behind the name -/
theorem show_two4 (w0 : World) (HT : Pow w0) {op : Int} {s : List UInt8} (hr : Row op s 4) (a b : Int) (ha0 : -9223372036854775808 ≤ a) (ha1 : a ≤ 9223372036854775807) (hb0 : -9223372036854775808 ≤ b) (hb1 : b ≤ 9223372036854775807) (name : List UInt8) (w : World) (HB : Below w0.heap.size w0 w)
  (hl : (Lib.join [s, Lib.itoa a, Lib.itoa b] [32]).length ≤ 140737488355328) :
  Calls Tryz.prog 8 #[.agg #[.int .i64 op, .int .i64 a, .int .i64 b], .string (by_ name)] w fun e w' => e = .returned (.string (by_ (Lib.join [s, Lib.itoa a, Lib.itoa b] [32]))) ∧ Below w0.heap.size w0 w' := by
 have HI : Aside0 (∀ w, Below w0.heap.size w0 w → Calls Tryz.prog 25 #[.int .i64 a] w fun e w' => e = .returned (.string (by_ (Lib.itoa a))) ∧ Below w.heap.size w w') := ⟨fun w hb => itoa_any w0 HT _ ha0 ha1 w hb⟩
 have HK : Aside0 (∀ w, Below w0.heap.size w0 w → Calls Tryz.prog 25 #[.int .i64 b] w fun e w' => e = .returned (.string (by_ (Lib.itoa b))) ∧ Below w.heap.size w w') := ⟨fun w hb => itoa_any w0 HT _ hb0 hb1 w hb⟩
 have HBB := Aside0.mk HB
 have HR := Aside0.mk (fun w => row_any hr w)
 obtain ⟨i0, hi, hz0, hz1, hz2⟩ := info_parts info9
 have hlow := HB.size
 have HJ : Aside0 (∀ (gg cap : Nat) (w1 : World), gg < w1.heap.size → 3 ≤ cap → (∀ (j : Nat) (x : ByteArray), [by_ s, by_ (Lib.itoa a), by_ (Lib.itoa b)][j]? = some x → w1.cell? ⟨gg, 0 + j, none⟩ = some (.string x)) → Calls Tryz.prog 26 #[.slice (some ⟨gg, 0, none⟩) 3 cap, .string ⟨#[32]⟩] w1 fun e w' => e = .returned (.string (by_ (Lib.join [s, Lib.itoa a, Lib.itoa b] [32]))) ∧ Below w1.heap.size w1 w') :=
  ⟨fun gg cap w1 h1 h2 h4 => Tryz.strings_Join gg 0 cap [by_ s, by_ (Lib.itoa a), by_ (Lib.itoa b)] ⟨#[32]⟩ w1 h4 h1 (by simp) h2 (by simpa [by_] using hl)⟩
 obtain ⟨v, hv⟩ : ∃ z, by_ (Lib.join [s, Lib.itoa a, Lib.itoa b] [32]) = z := ⟨_, rfl⟩
 rw [hv] at HJ ⊢
 obtain ⟨sb, hsb⟩ : ∃ z, by_ s = z := ⟨_, rfl⟩
 rw [hsb] at HJ HR
 obtain ⟨t0, ht0⟩ : ∃ z, by_ (Lib.itoa a) = z := ⟨_, rfl⟩
 rw [ht0] at HJ HI
 obtain ⟨t1, ht1⟩ : ∃ z, by_ (Lib.itoa b) = z := ⟨_, rfl⟩
 rw [ht1] at HJ HK
 obtain ⟨nb, hnb⟩ : ∃ z, by_ name = z := ⟨_, rfl⟩
 rw [hnb]
 clear hnb
 clear HB hr hl hv hsb ht0 ht1 HT ha0 ha1 hb0 hb1
 go_enter Tryz.func8, Tryz.ntmps8
 go_upto_region 11 with (go_at_call 23; refine (HR.out _).mono ?_; rintro e w' ⟨rfl, hw⟩; obtain rfl := hw.symm)
 generalize ewx : (w.alloc (Obj.cells #[Value.int IntKind.i64 op, Value.int IntKind.i64 a, Value.int IntKind.i64 b] 23)).alloc (Obj.cells #[Value.string sb] 9) = wx
 have HBX := Aside0.mk (show Below w0.heap.size w0 wx by rw [← ewx]; exact below_alloc (below_alloc HBB.out _) _)
 have hx1 : wx.cell? ⟨w.heap.size, 1, none⟩ = some (.int .i64 a) := by rw [← ewx]; exact pw_cell_below (below_alloc (Below.refl _ _) _) (by rw [blk_cell (blk_new w _)]; rfl)
 have hx2 : wx.cell? ⟨w.heap.size, 2, none⟩ = some (.int .i64 b) := by rw [← ewx]; exact pw_cell_below (below_alloc (Below.refl _ _) _) (by rw [blk_cell (blk_new w _)]; rfl)
 have hx3 : wx.cell? ⟨w.heap.size + 1, 0, none⟩ = some (.string sb) := by
  rw [← ewx]
  have h_ := blk_new (w.alloc (Obj.cells #[Value.int IntKind.i64 op, Value.int IntKind.i64 a, Value.int IntKind.i64 b] 23)) (Obj.cells #[Value.string sb] 9)
  simp only [World.size_alloc] at h_
  rw [blk_cell h_]; rfl
 have hxs : w.heap.size + 1 < wx.heap.size := by rw [← ewx]; simp only [World.size_alloc]; omega
 clear ewx
 replace HBX := HBX.out
 go_region_held3 (fun w' => w'.cell? ⟨w.heap.size, 1, none⟩ = some (.int .i64 a) ∧ w'.cell? ⟨w.heap.size, 2, none⟩ = some (.int .i64 b) ∧ w'.cell? ⟨w.heap.size + 1, 0, none⟩ = some (.string sb) ∧ Below w0.heap.size w0 w')
  (((try go_split_ands); refine ⟨?_, ?_, ?_, ?_⟩ <;> first
   | assumption
   | exact pw_cell_below hb_ (by assumption)
   | exact pw_cell_below (below_drew (Below.refl _ _)) (by assumption)
   | exact pw_cell_below (below_drew (below_alloc (Below.refl _ _) _)) (by assumption)
   | exact pw_cell_below (below_alloc (Below.refl _ _) _) (by assumption)
   | exact below_drew (by assumption)
   | exact below_alloc (by assumption) _
   | exact below_drew (below_alloc (by assumption) _)
   | exact Below.trans (by assumption) (hb_.mono (Below.size (by assumption)))))
  (first
   | (go_at_call 25; go_split_ands; refine (HI.out _ (by assumption)).mono ?_; rintro e w' ⟨rfl, hb_⟩)
   | (go_at_call 25; go_split_ands; refine (HK.out _ (by assumption)).mono ?_; rintro e w' ⟨rfl, hb_⟩)
   | (go_split_ands; refine step_append_grows (by rfl) _ _ 58 (by rfl) 9 i0 _ 1 16 Tryz.underlying58 hi hz0 hz1 hz2 rfl (by decide) (some ⟨w.heap.size + 1, 0, none⟩) 1 1 [.string sb] (by rfl) (by intro h; cases h) rfl (by intro q hq j u hj; cases hq; match j, hj with | 0, hj => (simp at hj; subst hj; simp [Addr.add]; assumption) | (j + 1), hj => simp at hj) ⟨_, 0, none⟩ 2 2 [.string t0, .string t1] (by rfl) (by rfl) (World.news_of_block (cs := #[.string t0, .string t1]) (t := 9) (fr := (0, 0)) (heap_alloc_new _ _)) (by simp [Value.oneCell']) (by omega) (by unfold maxLen; omega) (by omega) ?_; intro v1 w1 hown1 hgrow; have hb_ := pw_below_grown (Below.refl _ _) none (Nat.le_refl _) hgrow (by simp); obtain ⟨gg, cap, rfl, -, hglt⟩ := hown1.form (by omega)))
 (try go_split_ands)
 have HOWN := Aside0.mk hown1
 have HB1 := Aside0.mk (show Below w0.heap.size w0 w1 by first | assumption | exact Below.trans (by assumption) (hb_.mono (Below.size (by assumption))))
 clear hown1 hgrow hb_
 go_wp2_with (go_at_call 26; refine (HJ.out gg cap w1 hglt ?hn ?hj).mono ?_; (case hn => exact own_le HOWN.out); (case hj => (intro j x hj; have h_ := HOWN.out.cells (g := gg) rfl j (.string x) (by match j, hj with | 0, hj => (simp at hj; subst hj; rfl) | 1, hj => (simp at hj; subst hj; rfl) | 2, hj => (simp at hj; subst hj; rfl) | (j + 3), hj => simp at hj); rw [add_at] at h_; exact h_)); rintro e w' ⟨rfl, hb_⟩; have HBZ := Aside0.mk (HB1.out.trans (hb_.mono HB1.out.size)); clear hb_)
 go_ret
 exact ⟨rfl, HBZ.out⟩
set_option maxRecDepth 100000 in
theorem r_name {op : Int} {s : List UInt8} {k : Int} (h : Row op s k) (w : World) : Calls Tryz.prog 27 #[.int .i64 op] w fun e w' => e = .returned (.string (by_ s)) ∧ Below w.heap.size w w' := by
 have HB := Aside0.mk (Below.refl w.heap.size w)
 rcases h with h | ⟨h, rfl, rfl⟩
 ·have h2 := row_in h
  clear h
  rcases h2 with ⟨rfl, rfl, rfl⟩ | ⟨rfl, rfl, rfl⟩ | ⟨rfl, rfl, rfl⟩ | ⟨rfl, rfl, rfl⟩ | ⟨rfl, rfl, rfl⟩ | ⟨rfl, rfl, rfl⟩ | ⟨rfl, rfl, rfl⟩ | ⟨rfl, rfl, rfl⟩ | ⟨rfl, rfl, rfl⟩ | ⟨rfl, rfl, rfl⟩ | ⟨rfl, rfl, rfl⟩ | ⟨rfl, rfl, rfl⟩ | ⟨rfl, rfl, rfl⟩ | ⟨rfl, rfl, rfl⟩ | ⟨rfl, rfl, rfl⟩ | ⟨rfl, rfl, rfl⟩ | ⟨rfl, rfl, rfl⟩ | ⟨rfl, rfl, rfl⟩ | ⟨rfl, rfl, rfl⟩ | ⟨rfl, rfl, rfl⟩ | ⟨rfl, rfl, rfl⟩ <;> (go_enter Tryz.func27, Tryz.ntmps27; go_wp2; go_ret; exact ⟨rfl, below_alloc HB.out _⟩)
 ·have h2 := row_out h
  clear h
  by_cases h3 : op < 1
  ·have c1 := decide_eq_true h3
   clear h2
   go_enter Tryz.func27, Tryz.ntmps27
   go_wp2
   go_ret
   exact ⟨rfl, below_alloc HB.out _⟩
  ·have h4 : 21 < op := by omega
   have c1 := decide_eq_false h3
   have c2 := decide_eq_true h4
   clear h2
   go_enter Tryz.func27, Tryz.ntmps27
   go_wp2
   go_ret
   exact ⟨rfl, below_alloc HB.out _⟩
end Go.Proofs.YtneepokiioefgaaGreatDoor.Pools
namespace Go.Tok
/-- quotient and rest, a binary digit more -/
theorem bit_step {h b d : Nat} (hb : b < 2) (hd : 0 < d) :
  (2 * h + b) / d = 2 * (h / d) + (if d ≤ 2 * (h % d) + b then 1 else 0) ∧ (2 * h + b) % d = (if d ≤ 2 * (h % d) + b then 2 * (h % d) + b - d else 2 * (h % d) + b) := by
 have e := Nat.div_add_mod h d
 have l := Nat.mod_lt h hd
 generalize h / d = q at *
 generalize h % d = r at *
 have k : 2 * h + b = 2 * r + b + d * (2 * q) := by rw [Nat.mul_left_comm, ← e, Nat.mul_add]; omega
 rw [k, Nat.add_mul_div_left _ _ hd, Nat.add_mul_mod_self_left]
 by_cases c : d ≤ 2 * r + b
 ·rw [if_pos c, if_pos c]
  have k2 : 2 * r + b = (2 * r + b - d) + d * 1 := by omega
  have k3 : 2 * r + b - d < d := by omega
  constructor
  ·rw [k2, Nat.add_mul_div_left _ _ hd, Nat.div_eq_of_lt k3]; omega
  ·conv => lhs; rw [k2]
   rw [Nat.add_mul_mod_self_left, Nat.mod_eq_of_lt k3]
 ·rw [if_neg c, if_neg c]
  constructor
  ·rw [Nat.div_eq_of_lt (by omega)]; omega
  ·rw [Nat.mod_eq_of_lt (by omega)]
theorem cut_step (n i : Nat) : n / 2 ^ i = 2 * (n / 2 ^ (i + 1)) + n / 2 ^ i % 2 := by
 rw [Nat.pow_succ, ← Nat.div_div_eq_div_mul]
 omega
/-- digits told so far, the lowest first, and what is left -/
def Dig (n v : Nat) (b : List UInt8) : Prop := Lib.decDigits n = (if b = [] then Lib.decDigits v else if v = 0 then [] else Lib.decDigits v) ++ b.reverse
theorem dig_start (n : Nat) : Dig n n [] := by unfold Dig; rw [if_pos rfl, List.reverse_nil, List.append_nil]
theorem dig_end {n : Nat} {b : List UInt8} (h : Dig n 0 b) (hb : b ≠ []) : Lib.decDigits n = b.reverse := by
 unfold Dig at h
 rw [if_neg hb, if_pos rfl, List.nil_append] at h
 exact h
theorem dig_step {n v : Nat} {b : List UInt8} (h : Dig n v b) (hv : b = [] ∨ v ≠ 0) : Dig n (v / 10) (b ++ [UInt8.ofNat (48 + v % 10)]) := by
 have e : (if b = [] then Lib.decDigits v else if v = 0 then [] else Lib.decDigits v) = Lib.decDigits v := by
  rcases hv with hv | hv
  ·rw [if_pos hv]
  ·rw [if_neg hv]; split <;> rfl
 unfold Dig at *
 rw [e] at h
 rw [if_neg (by simp), h, List.reverse_append]
 by_cases c : v < 10
 ·rw [if_pos (Nat.div_eq_of_lt c), Lib.decDigits, dif_pos c, Nat.mod_eq_of_lt c]
  rfl
 ·rw [if_neg (by omega), Lib.decDigits, dif_neg c]
  simp
/-- one round of the division by ten, the bits i and below still to come -/
theorem div_round (n i : Nat) {h r q b : Nat} (eh : n / 2 ^ (i + 1) = h) (er : h % 10 = r) (eq : h / 10 = q) (eb : n / 2 ^ i % 2 = b) :
  (10 ≤ 2 * r + b → n / 2 ^ i / 10 = 2 * q + 1 ∧ n / 2 ^ i % 10 = 2 * r + b - 10) ∧ (¬ 10 ≤ 2 * r + b → n / 2 ^ i / 10 = 2 * q ∧ n / 2 ^ i % 10 = 2 * r + b) := by
 have h1 := cut_step n i
 rw [eh, eb] at h1
 have h2 := bit_step (h := h) (b := b) (d := 10) (by omega) (by decide)
 rw [er, eq] at h2
 rw [h1, h2.1, h2.2]
 constructor
 ·intro c; rw [if_pos c, if_pos c]; exact ⟨rfl, rfl⟩
 ·intro c; rw [if_neg c, if_neg c]; exact ⟨rfl, rfl⟩
theorem cut_zero {n i : Nat} (hn : n < 18446744073709551616) (hi : 64 ≤ i) : n / 2 ^ i = 0 := by
 refine Nat.div_eq_of_lt (Nat.lt_of_lt_of_le hn ?_)
 exact Nat.pow_le_pow_right (n := 2) (by decide) hi
theorem cut_less {n : Nat} (hn : n < 18446744073709551616) (i : Nat) : n / 2 ^ i < 18446744073709551616 := Nat.lt_of_le_of_lt (Nat.div_le_self _ _) hn
end Go.Tok
namespace Go.Proofs.YtneepokiioefgaaGreatDoor.Pools
open Go.RowKit Go.Toks Go.Tok Go.Proofs.YtneepokiioefgaaGreatDoorW.PrintWords Go.Proofs.YtneepokiioefgaaGreatDoorW.PrintLast Go.Proofs.YtneepokiioefgaaGreatDoorW.PrintMore
theorem wrp_ {x y : Int} (h : x = y ∧ -9223372036854775808 ≤ y ∧ y ≤ 9223372036854775807) : Aside0 (wrap64 x = y ∧ IntKind.i64.wrap x = y) := by
 have e : wrap64 x = y := by rw [h.1]; unfold wrap64; omega
 exact ⟨e, (i64_w _).trans e⟩
theorem or_bit {x b : Nat} (hx : 2 * x + b < 18446744073709551616) (hb : b < 2) : bits .or .u64 ((2 * x : Nat) : Int) (b : Int) = ((2 * x + b : Nat) : Int) := by
 rw [u64_or_nat _ _ (by omega) (by omega), nat_join 1 _ _ (Nat.mul_mod_right 2 x) hb]
theorem and_bit {x : Nat} (hx : x < 18446744073709551616) : bits .and .u64 (x : Int) 1 = ((x % 2 : Nat) : Int) := by
 rw [show (1 : Int) = ((1 : Nat) : Int) from rfl, u64_and_nat _ _ hx (by decide), nat_mask1]
set_option maxRecDepth 100000 in
theorem r_divide (w : World) (N : Nat) (hN : N < 18446744073709551616) (lo : Int) (hlo : IntKind.u64.wrap lo = (N : Int)) :
  Calls Tryz.prog 108 #[.int .i64 lo, .int .i64 0, .int .i64 10] w fun e w' => e = .returned (.tuple #[.int .i64 ((N / 10 : Nat) : Int), .int .i64 0, .int .i64 ((N % 10 : Nat) : Int)]) ∧ w' = w := by
 have HN := Aside0.mk hN
 obtain ⟨nn, hnn⟩ : ∃ z : Int, (N : Int) = z := ⟨_, rfl⟩
 rw [hnn] at hlo
 have HNN := Aside0.mk hnn
 obtain ⟨A, hA⟩ : ∃ z : Int, ((N / 10 : Nat) : Int) = z := ⟨_, rfl⟩
 obtain ⟨B, hB⟩ : ∃ z : Int, ((N % 10 : Nat) : Int) = z := ⟨_, rfl⟩
 rw [hA, hB]
 have HAB := Aside0.mk (And.intro hA hB)
 clear hN hnn hA hB
 have u10 : IntKind.u64.wrap 10 = 10 := by decide
 have o0 : bits .or .u64 0 0 = 0 := by decide
 have o1 : bits .and .u64 0 1 = 0 := by decide
 go_enter Tryz.func108, Tryz.ntmps108
 go_wp2
 go_loopg [9, 10, 11, 12] 128 (fun kq v9 v10 v11 v12 wr => ∃ (r q i : Int), v9 = .int .u64 r ∧ v10 = .int .u64 q ∧ v11 = .int .u64 0 ∧ v12 = .int .i64 i ∧ Aside0 (kq ≤ 128 ∧ i = (kq : Int) - 1 ∧ r = ((N / 2 ^ kq % 10 : Nat) : Int) ∧ q = ((N / 2 ^ kq / 10 : Nat) : Int)) ∧ wr = w)
 case atStart => exact ⟨0, 0, 127, rfl, rfl, rfl, rfl, ⟨Nat.le_refl _, rfl, by rw [cut_zero HN.out (by decide)]; rfl, by rw [cut_zero HN.out (by decide)]; rfl⟩, rfl⟩
 case round =>
  obtain ⟨r, q, i, rfl, rfl, rfl, rfl, HR, rfl⟩ := hrel
  cases gk with
  | zero =>
   obtain rfl : i = -1 := HR.out.2.1
   obtain rfl : r = B := by have h1 := HR.out.2.2.1; rw [Nat.pow_zero, Nat.div_one] at h1; rw [h1]; exact HAB.out.2
   obtain rfl : q = A := by have h1 := HR.out.2.2.2; rw [Nat.pow_zero, Nat.div_one] at h1; rw [h1]; exact HAB.out.1
   have a1 := wrp_ (x := r) (y := r) (by have := HAB.out.2; omega)
   have a2 := wrp_ (x := q) (y := q) (by have := HAB.out.1; have := HN.out; omega)
   obtain ⟨a3, a4⟩ := a1.out
   obtain ⟨a5, a6⟩ := a2.out
   clear a1 a2
   go_wp2
   go_ret3
   exact ⟨by first | rfl | simp only [a3, a4, a5, a6], rfl⟩
  | succ j =>
   obtain ⟨m, hm⟩ : ∃ m : Nat, j % 64 = m := ⟨_, rfl⟩
   have z2 : i.tmod 64 = (m : Int) := by
    have := HR.out.2.1
    rw [show i = ((j : Nat) : Int) by omega, ← hm]
    exact (Int.ofNat_tmod _ _).symm
   obtain ⟨x, hx⟩ : ∃ z : Int, ((N / 2 ^ m : Nat) : Int) = z := ⟨_, rfl⟩
   have hsh : nn / 2 ^ min m 64 = x := by rw [Nat.min_eq_left (by omega), ← HNN.out, ← hx, Int.natCast_ediv, Int.natCast_pow]; rfl
   have c1 := decide_eq_true (show (0 : Int) ≤ i by have := HR.out.2.1; omega)
   have HD := Aside0.mk (div_round N j (h := _) (r := _) (q := _) (b := _) rfl rfl rfl rfl)
   obtain ⟨rn, hrn⟩ : ∃ z, N / 2 ^ (j + 1) % 10 = z := ⟨_, rfl⟩
   obtain ⟨qn, hqn⟩ : ∃ z, N / 2 ^ (j + 1) / 10 = z := ⟨_, rfl⟩
   obtain ⟨bn, hbn⟩ : ∃ z, N / 2 ^ j % 2 = z := ⟨_, rfl⟩
   have hr9 : rn < 10 := by omega
   have hq9 : 10 * qn < 18446744073709551616 := by have := cut_less HN.out (j + 1); omega
   have hb9 : bn < 2 := by omega
   have hb := and_bit (cut_less HN.out j)
   have hr := HR.out.2.2.1
   have hq := HR.out.2.2.2
   rw [hrn] at hr HD
   rw [hqn] at hq HD
   rw [hbn] at hb HD
   have HI := HR.out.2.1
   have HJ := HR.out.1
   clear HR hrn hqn
   have f1 : r / 9223372036854775808 = 0 := by omega
   have f2 : q / 9223372036854775808 = 0 := by omega
   obtain ⟨r2, hr2⟩ : ∃ z : Int, ((2 * rn : Nat) : Int) = z := ⟨_, rfl⟩
   obtain ⟨q2, hq2⟩ : ∃ z : Int, ((2 * qn : Nat) : Int) = z := ⟨_, rfl⟩
   have f3 : IntKind.u64.wrap (r * 2) = r2 := by rw [IntKind.wrap_u64]; omega
   have f6 : IntKind.u64.wrap (q * 2) = q2 := by rw [IntKind.wrap_u64]; omega
   obtain ⟨rr, hrr⟩ : ∃ z : Int, ((2 * rn + bn : Nat) : Int) = z := ⟨_, rfl⟩
   have f4 := or_bit (x := rn) (b := bn) (by omega) hb9
   rw [hr2, hrr] at f4
   have f9 := or_bit (x := qn) (b := 1) (by omega) (by decide)
   obtain ⟨q3, hq3⟩ : ∃ z : Int, ((2 * qn + 1 : Nat) : Int) = z := ⟨_, rfl⟩
   rw [hq2, hq3] at f9
   replace f9 : bits .or .u64 q2 1 = q3 := f9
   have W1 := wrp_ (x := i - 1) (y := (j : Int) - 1) (by omega)
   obtain ⟨iv, hiv⟩ : ∃ z : Int, (j : Int) - 1 = z := ⟨_, rfl⟩
   rw [hiv] at W1
   obtain ⟨w1, w2⟩ := W1.out
   clear W1
   by_cases h10 : 10 ≤ 2 * rn + bn
   ·have d1 := decide_eq_true (show (10 : Int) ≤ rr by omega)
    obtain ⟨rs, hrs⟩ : ∃ z : Int, ((2 * rn + bn - 10 : Nat) : Int) = z := ⟨_, rfl⟩
    have f8 : IntKind.u64.wrap (rr - 10) = rs := by rw [IntKind.wrap_u64]; omega
    have HX := Aside0.mk (show j ≤ 128 ∧ iv = (j : Int) - 1 ∧ rs = ((N / 2 ^ j % 10 : Nat) : Int) ∧ q3 = ((N / 2 ^ j / 10 : Nat) : Int) by obtain ⟨g1, g2⟩ := HD.out.1 h10; rw [g1, g2]; omega)
    by_cases h64 : 64 ≤ j
    ·have c2 := decide_eq_true (show (64 : Int) ≤ i by omega)
     have z3 := wrp_ (x := i - 64) (y := ((j - 64 : Nat) : Int)) (by omega)
     obtain ⟨e1, e2⟩ := z3.out
     obtain rfl : bn = 0 := by rw [← hbn, cut_zero HN.out h64]
     replace f4 : bits .or .u64 r2 0 = rr := f4
     clear z3 hm hx hb hbn HD hr hq hr2 hq2 hrr hq3 hiv h64 h10 HI HJ hr9 hq9 hb9 hrs
     go_wp2
     go_roundg j
     case measure => omega
     case rel => exact ⟨rs, q3, iv, rfl, rfl, rfl, rfl, HX, rfl⟩
    ·have c2 := decide_eq_false (show ¬ (64 : Int) ≤ i by omega)
     obtain rfl : m = j := by omega
     obtain ⟨b, hbb⟩ : ∃ z : Int, (bn : Int) = z := ⟨_, rfl⟩
     rw [hx, hbb] at hb
     rw [hbb] at f4
     clear hm hx hbb hbn HD hr hq hr2 hq2 hrr hq3 hiv h64 h10 HI HJ hr9 hq9 hb9 hrs
     go_wp2
     go_roundg m
     case measure => omega
     case rel => exact ⟨rs, q3, iv, rfl, rfl, rfl, rfl, HX, rfl⟩
   ·have d1 := decide_eq_false (show ¬ (10 : Int) ≤ rr by omega)
    have HX := Aside0.mk (show j ≤ 128 ∧ iv = (j : Int) - 1 ∧ rr = ((N / 2 ^ j % 10 : Nat) : Int) ∧ q2 = ((N / 2 ^ j / 10 : Nat) : Int) by obtain ⟨g1, g2⟩ := HD.out.2 h10; rw [g1, g2]; omega)
    by_cases h64 : 64 ≤ j
    ·have c2 := decide_eq_true (show (64 : Int) ≤ i by omega)
     have z3 := wrp_ (x := i - 64) (y := ((j - 64 : Nat) : Int)) (by omega)
     obtain ⟨e1, e2⟩ := z3.out
     obtain rfl : bn = 0 := by rw [← hbn, cut_zero HN.out h64]
     replace f4 : bits .or .u64 r2 0 = rr := f4
     clear z3 hm hx hb hbn HD hr hq hr2 hq2 hrr hq3 hiv h64 h10 HI HJ hr9 hq9 hb9
     go_wp2
     go_roundg j
     case measure => omega
     case rel => exact ⟨rr, q2, iv, rfl, rfl, rfl, rfl, HX, rfl⟩
    ·have c2 := decide_eq_false (show ¬ (64 : Int) ≤ i by omega)
     obtain rfl : m = j := by omega
     obtain ⟨b, hbb⟩ : ∃ z : Int, (bn : Int) = z := ⟨_, rfl⟩
     rw [hx, hbb] at hb
     rw [hbb] at f4
     clear hm hx hbb hbn HD hr hq hr2 hq2 hrr hq3 hiv h64 h10 HI HJ hr9 hq9 hb9
     go_wp2
     go_roundg m
     case measure => omega
     case rel => exact ⟨rr, q2, iv, rfl, rfl, rfl, rfl, HX, rfl⟩
set_option maxRecDepth 100000 in
theorem r_udiv (w : World) (N : Nat) (hN : N < 18446744073709551616) (lo : Int) (hlo : IntKind.u64.wrap lo = (N : Int)) :
  Calls Tryz.prog 79 #[.int .i64 lo, .int .i64 0, .int .i64 10] w fun e w' => e = .returned (.tuple #[.int .i64 ((N % 10 : Nat) : Int), .int .i64 ((N / 10 : Nat) : Int), .int .i64 0]) ∧ w' = w := by
 have HD := Aside0.mk (fun w => r_divide w N hN lo hlo)
 obtain ⟨A, hA⟩ : ∃ z : Int, ((N / 10 : Nat) : Int) = z := ⟨_, rfl⟩
 obtain ⟨B, hB⟩ : ∃ z : Int, ((N % 10 : Nat) : Int) = z := ⟨_, rfl⟩
 rw [hA, hB] at HD
 rw [hA, hB]
 clear hN hlo hA hB
 go_enter Tryz.func79, Tryz.ntmps79
 go_wp2_with (go_at_call 108; (with_reducible refine (HD.out _).mono ?_); rintro q w' ⟨rfl, hw⟩; obtain rfl := hw.symm)
 go_ret3
 exact ⟨rfl, rfl⟩
theorem info5_ : (Tryz.prog.info? 5).map (fun i => (i.zero, i.size, i.bytes)) = some (some (.int .u8 0), 1, 1) := by kernel_rfl
/-- a row of bytes as numbers -/
def num8 (l : List UInt8) : List Int := l.map fun x => (x.toNat : Int)
theorem num8_len (l : List UInt8) : (num8 l).length = l.length := List.length_map ..
theorem num8_app (l : List UInt8) (x : UInt8) : num8 l ++ [(x.toNat : Int)] = num8 (l ++ [x]) := by simp [num8]
theorem str_num8 (l : List UInt8) : strOfNums (num8 l) = by_ l := by
 unfold strOfNums num8 by_
 rw [List.map_map]
 congr 2
 conv => rhs; rw [← List.map_id l]
 apply List.map_congr_left
 intro x _
 simp
theorem num8_at (l : List UInt8) (i : Nat) (h : i < l.length) : rdOf 0 (num8 l) (i : Int) = (l[i].toNat : Int) := by
 unfold rdOf num8
 simp [List.getD_eq_getElem?_getD, h]
theorem ten_digit {r : Nat} (h : r < 10) (hs : r < (⟨#[48, 49, 50, 51, 52, 53, 54, 55, 56, 57, 65, 66, 67, 68, 69, 70, 71, 72, 73, 74, 75, 76, 77, 78, 79, 80, 81, 82, 83, 84, 85, 86, 87, 88, 89, 90]⟩ : ByteArray).size) :
  ((⟨#[48, 49, 50, 51, 52, 53, 54, 55, 56, 57, 65, 66, 67, 68, 69, 70, 71, 72, 73, 74, 75, 76, 77, 78, 79, 80, 81, 82, 83, 84, 85, 86, 87, 88, 89, 90]⟩ : ByteArray)[r]'hs).toNat = 48 + r := by
 match r, h with
 | 0, _ | 1, _ | 2, _ | 3, _ | 4, _ | 5, _ | 6, _ | 7, _ | 8, _ | 9, _ => rfl
theorem digit_u8 {r : Nat} (h : r < 10) : (UInt8.ofNat (48 + r)).toNat = 48 + r := by
 rw [UInt8.toNat_ofNat']
 exact Nat.mod_eq_of_lt (by omega)
set_option maxRecDepth 100000 in
theorem r8_Text (w : World) (N : Nat) (hN : N < 18446744073709551616) (lo : Int) (hlo : IntKind.u64.wrap lo = (N : Int)) (hlo0 : lo = 0 ↔ N = 0) :
  Calls Tryz.prog 59 #[.int .i64 lo, .int .i64 0, .int .i64 10] w fun e w' => e = .returned (.string (by_ (Lib.decDigits N))) ∧ Below w.heap.size w w' := by
 obtain ⟨t, ht⟩ : ∃ z, by_ (Lib.decDigits N) = z := ⟨_, rfl⟩
 have HTT := Aside0.mk ht
 rw [ht]
 have HB := Aside0.mk (Below.refl w.heap.size w)
 have HN := Aside0.mk (And.intro hN (And.intro hlo hlo0))
 have u0 : IntKind.u64.wrap 0 = 0 := by decide
 have u10 : IntKind.u64.wrap 10 = 10 := by decide
 clear ht hN hlo hlo0
 go_enter Tryz.func59, Tryz.ntmps59
 go_wp2
 go_loopg [0, 1, 7] 20 (fun kq v0 v1 v7 wr => ∃ (lv : Int) (v : Nat) (b : List UInt8), v0 = .int .i64 lv ∧ v1 = .int .i64 0 ∧ Aside0 (IntKind.u64.wrap lv = (v : Int) ∧ (lv = 0 ↔ v = 0) ∧ v < 18446744073709551616 ∧ v < 10 ^ kq ∧ b.length + kq = 20) ∧ Aside0 (Dig N v b) ∧ Aside0 (Kd.R (Kd.int .u8) 5 wr w.heap.size (fun _ => True) v7 (num8 b)) ∧ Aside0 (Below w.heap.size w wr))
 case atStart => exact ⟨lo, N, [], rfl, rfl, ⟨HN.out.2.1, HN.out.2.2, HN.out.1, Nat.lt_of_lt_of_le HN.out.1 (by decide), rfl⟩, ⟨dig_start N⟩, ⟨Kd.R_nil _ _ _ _ _⟩, HB⟩
 case round =>
  clear HN HB
  obtain ⟨lv, v, b, rfl, rfl, HV, HD, HO, HB⟩ := hrel
  by_cases hx : b ≠ [] ∧ v = 0
  ·obtain ⟨hb, rfl⟩ := hx
   obtain rfl : lv = 0 := HV.out.2.1.2 rfl
   have hdig := dig_end HD.out hb
   have hbl := List.length_pos_iff.2 hb
   obtain ⟨g, c, rfl, hg0, hg1, -⟩ := Kd.R_form HO.out (by rw [num8_len]; exact hbl)
   have hn8 := num8_len b
   obtain ⟨L, hL⟩ : ∃ z, (num8 b).length = z := ⟨_, rfl⟩
   have c0 : ((L : Int) == 0) = false := by rw [beq_eq_false_iff_ne]; omega
   have c0' : ¬ L = 0 := by omega
   have HBL := Aside0.mk (show b.length = L by omega)
   have HC := Aside0.mk (fun (i : Nat) (h : i < b.length) => (num8_at b i h) ▸ (Kd.R_celln 0 HO.out (i : Int) (by omega) (by rw [num8_len]; omega)).1)
   have W1 := wrp_ (x := (L : Int) - 1) (y := (L : Int) - 1) (by have := HV.out.2.2.2.2; omega)
   obtain ⟨w1, w2⟩ := W1.out
   rw [hL]
   clear hb hbl hn8 hL W1 HD
   have HB0 := HB
   clear HB
   go_wp2
   obtain ⟨W0, hW0⟩ : ∃ z, z = wr := ⟨_, rfl⟩
   subst hW0
   go_loopg [12, 13] L (fun kq v12 v13 w2 => ∃ (iv : Int) (o : List UInt8), v13 = .int .i64 iv ∧ Aside0 (iv = (kq : Int) - 1 ∧ kq ≤ L ∧ o = (b.drop kq).reverse) ∧ Aside0 (Kd.R (Kd.int .u8) 5 w2 W0.heap.size (fun _ => True) v12 (num8 o)) ∧ Aside0 (Below W0.heap.size W0 w2))
   case atStart => exact ⟨_, [], rfl, ⟨rfl, Nat.le_refl _, by rw [← HBL.out, List.drop_length]; rfl⟩, ⟨Kd.R_nil _ _ _ _ _⟩, ⟨Below.refl _ _⟩⟩
   case round =>
    clear HO
    obtain ⟨iv, o, rfl, HI, HO, HB⟩ := hrel
    cases gk with
    | zero =>
     obtain rfl : iv = -1 := HI.out.1
     have ho : o = b.reverse := HI.out.2.2
     have hcv := own_string (P := Tryz.prog) Tryz.underlying72 Tryz.underlying5 Tryz.underlying9 (Kd.own_of_R HO.out)
     rw [str_num8, ho, ← hdig, HTT.out] at hcv
     clear hdig ho
     go_wp2
     go_ret
     exact ⟨rfl, below_step HB0.out HB.out⟩
    | succ j =>
     have hj := HI.out.2.1
     obtain rfl : iv = (j : Int) := by have := HI.out.1; omega
     have hjb : j < b.length := by have := HBL.out; omega
     have c1 := decide_eq_true (show (0 : Int) ≤ (j : Int) by omega)
     have c2 : (j : Int) < (L : Int) := by omega
     have c3 : j < L := by omega
     have c4 : (0 : Int) ≤ (j : Int) := by omega
     have hz := pw_cell_below HB.out (HC.out j hjb)
     rw [Int.toNat_natCast] at hz
     obtain ⟨iv2, hiv2⟩ : ∃ z : Int, (j : Int) - 1 = z := ⟨_, rfl⟩
     have W1 := wrp_ (x := (j : Int) - 1) (y := iv2) (by have := HV.out.2.2.2.2; have := HBL.out; omega)
     obtain ⟨w1, w2⟩ := W1.out
     have hon : o ++ [b[j]] = (b.drop j).reverse := by rw [HI.out.2.2, List.drop_eq_getElem_cons hjb, List.reverse_cons]
     obtain ⟨bx, hbx⟩ : ∃ z, b[j] = z := ⟨_, rfl⟩
     rw [hbx] at hz hon
     have HR2 := Aside0.mk (num8_app o bx)
     obtain ⟨dv, hdv⟩ : ∃ z : Int, (bx.toNat : Int) = z := ⟨_, rfl⟩
     rw [hdv] at hz HR2
     have HI2 := Aside0.mk (And.intro hiv2.symm (And.intro (show j ≤ L by omega) hon))
     have HL := Aside0.mk (show (num8 o).length ≤ 1000 by have := HI.out.2.2; have := HV.out.2.2.2.2; rw [num8_len, HI.out.2.2, List.length_reverse, List.length_drop]; omega)
     clear hbx hj hjb W1 hon hdv HI hiv2
     go_wp2_with ((with_reducible refine gate_builtin (b := .append) (xs := #[.tmp 64, .tmp 69]) rfl ?_); at_builtin; refine Kd.R_append (Kd.int .u8) (w0 := W0) W0.heap.size rfl (.tmp 64) (.tmp 69) 72 5 (.int .u8 0) 1 rfl Tryz.underlying72 info5_ rfl (by decide) (by omega) u12 (num8 o) dv [.int .u8 dv] (fun _ => True) (fun _ => False) rfl rfl ?aP (fun _ hk => hk.elim) ?aF ?aO ?aB ?aS ?aL ?_; (case aP => exact rfl); (case aB => first | exact HB.out | exact below_alloc HB.out _); (case aF => exact (fun _ _ => trivial)); (case aO => first | exact HO.out | exact Kd.R_alloc HO.out _); (case aS => first | exact below_size HB.out | exact below_size (below_alloc HB.out _)); (case aL => have := HL.out; omega); intro v1 w5 ho hb hg hat; have HO2 := Aside0.mk ho; have HB2 := Aside0.mk hb; clear ho hb hg hat)
     rw [HR2.out] at HO2
     go_roundg j
     case measure => omega
     case rel => exact ⟨iv2, _, rfl, HI2, HO2, HB2⟩
  ·cases gk with
   | zero =>
    exfalso
    have h1 := HV.out.2.2.2.1
    have h2 := HV.out.2.2.2.2
    rw [Nat.pow_zero] at h1
    exact hx ⟨fun h => by rw [h] at h2; exact absurd h2 (by decide), by omega⟩
   | succ j =>
    have HU := Aside0.mk (fun w => r_udiv w v HV.out.2.2.1 lv HV.out.1)
    obtain ⟨rn, hrn⟩ : ∃ z, v % 10 = z := ⟨_, rfl⟩
    have hr9 : rn < 10 := by omega
    have hdg := ten_digit hr9
    obtain ⟨dn, hdn⟩ : ∃ z, 48 + rn = z := ⟨_, rfl⟩
    have hd8 := digit_u8 hr9
    rw [hdn] at hdg hd8
    have HD2 := Aside0.mk (dig_step HD.out (by by_cases h : b = []; exact .inl h; exact .inr fun h2 => hx ⟨h, h2⟩))
    rw [hrn, hdn] at HD2
    rw [hrn] at HU
    have HR2 := Aside0.mk (num8_app b (UInt8.ofNat dn))
    rw [hd8] at HR2
    have HL := Aside0.mk (show (num8 b).length ≤ 1000 by have := HV.out.2.2.2.2; rw [num8_len]; omega)
    have hq9 : v / 10 < 18446744073709551616 := by have := HV.out.2.2.1; omega
    obtain ⟨qv, hqv⟩ : ∃ z : Int, ((v / 10 : Nat) : Int) = z := ⟨_, rfl⟩
    have HV2 := Aside0.mk (show IntKind.u64.wrap qv = ((v / 10 : Nat) : Int) ∧ (qv = 0 ↔ v / 10 = 0) ∧ v / 10 < 18446744073709551616 ∧ v / 10 < 10 ^ j ∧ (b ++ [UInt8.ofNat dn]).length + j = 20 by
     refine ⟨by rw [IntKind.wrap_u64]; omega, by omega, hq9, ?_, ?_⟩
     ·have := HV.out.2.2.2.1
      rw [Nat.pow_succ] at this
      omega
     ·have := HV.out.2.2.2.2
      rw [List.length_append]
      simp
      omega)
    rw [hqv] at HU
    obtain ⟨A, c, rfl⟩ := Kd.R_slice HO.out
    have i1 : (rn : Int) < 36 := by omega
    have i2 : (0 : Int) ≤ (rn : Int) := by omega
    have i3 : rn < 36 := by omega
    obtain ⟨L, hL⟩ : ∃ z, (num8 b).length = z := ⟨_, rfl⟩
    have hbL : b.length = L := by rw [← hL, num8_len]
    by_cases hb : b = []
    ·obtain rfl : L = 0 := by rw [← hbL, hb]; rfl
     rw [hL]
     rw [hL] at HO
     clear HV HD hrn hr9 hdn hd8 hq9 hqv hL hbL hb hx
     go_wp2_with (first | (go_at_call 79; (with_reducible refine (HU.out _).mono ?_); rintro q w' ⟨rfl, hw⟩; obtain rfl := hw.symm) | ((with_reducible refine gate_builtin (b := .append) (xs := #[.tmp 52, .tmp 55]) rfl ?_); at_builtin; refine Kd.R_append (Kd.int .u8) (w0 := w) w.heap.size rfl (.tmp 52) (.tmp 55) 72 5 (.int .u8 0) 1 rfl Tryz.underlying72 info5_ rfl (by decide) (by omega) (.slice A 0 c) (num8 b) (dn : Int) [.int .u8 (dn : Int)] (fun _ => True) (fun _ => False) rfl rfl ?aP (fun _ hk => hk.elim) ?aF ?aO ?aB ?aS ?aL ?_; (case aP => exact rfl); (case aB => first | exact HB.out | exact below_alloc HB.out _); (case aF => exact (fun _ _ => trivial)); (case aO => first | exact HO.out | exact Kd.R_alloc HO.out _); (case aS => first | exact below_size HB.out | exact below_size (below_alloc HB.out _)); (case aL => have := HL.out; omega); intro v1 w5 ho hb hg hat; have HO2 := Aside0.mk ho; have HB2 := Aside0.mk hb; clear ho hb hg hat))
     rw [HR2.out] at HO2
     go_roundg j
     case measure => omega
     case rel => exact ⟨_, _, _, rfl, rfl, HV2, HD2, HO2, HB2⟩
    ·have hv0 : v ≠ 0 := fun h => hx ⟨hb, h⟩
     have hl0 : ¬ lv = 0 := fun h => hv0 (HV.out.2.1.1 h)
     have hl1 : (lv == 0) = false := by rw [beq_eq_false_iff_ne]; exact hl0
     have hl2 : (lv != 0) = true := by rw [bne_iff_ne]; exact hl0
     have hbp := List.length_pos_iff.2 hb
     have c0 : ((L : Int) == 0) = false := by rw [beq_eq_false_iff_ne]; omega
     have c0' : ¬ L = 0 := by omega
     rw [hL]
     rw [hL] at HO
     clear HV HD hrn hr9 hdn hd8 hq9 hqv hL hbL hb hx hv0 hbp
     go_wp2_with (first | (go_at_call 79; (with_reducible refine (HU.out _).mono ?_); rintro q w' ⟨rfl, hw⟩; obtain rfl := hw.symm) | ((with_reducible refine gate_builtin (b := .append) (xs := #[.tmp 52, .tmp 55]) rfl ?_); at_builtin; refine Kd.R_append (Kd.int .u8) (w0 := w) w.heap.size rfl (.tmp 52) (.tmp 55) 72 5 (.int .u8 0) 1 rfl Tryz.underlying72 info5_ rfl (by decide) (by omega) (.slice A L c) (num8 b) (dn : Int) [.int .u8 (dn : Int)] (fun _ => True) (fun _ => False) rfl rfl ?aP (fun _ hk => hk.elim) ?aF ?aO ?aB ?aS ?aL ?_; (case aP => exact rfl); (case aB => first | exact HB.out | exact below_alloc HB.out _); (case aF => exact (fun _ _ => trivial)); (case aO => first | exact HO.out | exact Kd.R_alloc HO.out _); (case aS => first | exact below_size HB.out | exact below_size (below_alloc HB.out _)); (case aL => have := HL.out; omega); intro v1 w5 ho hb hg hat; have HO2 := Aside0.mk ho; have HB2 := Aside0.mk hb; clear ho hb hg hat))
     rw [HR2.out] at HO2
     go_roundg j
     case measure => omega
     case rel => exact ⟨_, _, _, rfl, rfl, HV2, HD2, HO2, HB2⟩
theorem r8_Signed (w : World) (n : Int) (h0 : -9223372036854775808 ≤ n) (h1 : n ≤ 9223372036854775807) : Calls Tryz.prog 47 #[.int .i64 n, .int .i64 10] w fun e w' => e = .returned (.string (by_ (Lib.itoa n))) ∧ Below w.heap.size w w' := by
 have HB := Aside0.mk (Below.refl w.heap.size w)
 have hl := Lib.itoa_length_le n h0 h1
 unfold Lib.itoa at hl ⊢
 by_cases h : n < 0
 ·have c1 := decide_eq_true h
  rw [if_pos h] at hl ⊢
  obtain ⟨m, hm⟩ : ∃ z : Int, wrap64 (-n) = z := ⟨_, rfl⟩
  have hm2 : IntKind.i64.wrap (-n) = m := (i64_w _).trans hm
  have hmn : m = -n ∨ n = -9223372036854775808 ∧ m = n := by
   rw [← hm]
   unfold wrap64
   omega
  have HX := Aside0.mk (fun w => r8_Text w n.natAbs (by omega) m (by rw [IntKind.wrap_u64]; omega) (by omega))
  have hcat : ⟨#[45]⟩ ++ by_ (Lib.decDigits n.natAbs) = by_ (45 :: Lib.decDigits n.natAbs) := by
   apply ByteArray.ext
   simp [by_]
  have hsz : ¬ 9223372036854775807 < 1 + (by_ (Lib.decDigits n.natAbs)).size := by
   show ¬ _ < 1 + (Lib.decDigits n.natAbs).toArray.size
   rw [List.size_toArray]
   rw [List.length_cons] at hl
   omega
  obtain ⟨t, ht⟩ : ∃ z, by_ (Lib.decDigits n.natAbs) = z := ⟨_, rfl⟩
  obtain ⟨u, hu⟩ : ∃ z, by_ (45 :: Lib.decDigits n.natAbs) = z := ⟨_, rfl⟩
  rw [ht] at HX hcat hsz
  rw [hu] at hcat ⊢
  clear h h0 h1 hl hmn ht hu
  go_enter Tryz.func47, Tryz.ntmps47
  go_wp2_with (go_at_call 59; (with_reducible refine (HX.out _).mono ?_); rintro q w' ⟨rfl, hb⟩; have n0_ := Aside0.mk (below_step HB.out hb); clear HB hb; have HB := n0_; clear n0_)
  go_ret
  exact ⟨rfl, HB.out⟩
 ·have c1 := decide_eq_false h
  rw [if_neg h] at hl ⊢
  have HX := Aside0.mk (fun w => r8_Text w n.toNat (by omega) n (by rw [IntKind.wrap_u64]; omega) (by omega))
  obtain ⟨t, ht⟩ : ∃ z, by_ (Lib.decDigits n.toNat) = z := ⟨_, rfl⟩
  rw [ht] at HX ⊢
  clear h h0 h1 hl ht
  go_enter Tryz.func47, Tryz.ntmps47
  go_wp2_with (go_at_call 59; (with_reducible refine (HX.out _).mono ?_); rintro q w' ⟨rfl, hb⟩; have n0_ := Aside0.mk (below_step HB.out hb); clear HB hb; have HB := n0_; clear n0_)
  go_ret
  exact ⟨rfl, HB.out⟩
theorem r8_Decimal (w : World) (n : Int) (h0 : -9223372036854775808 ≤ n) (h1 : n ≤ 9223372036854775807) : Calls Tryz.prog 29 #[.int .i64 n] w fun e w' => e = .returned (.string (by_ (Lib.itoa n))) ∧ Below w.heap.size w w' := by
 have HX := Aside0.mk (fun w => r8_Signed w n h0 h1)
 obtain ⟨t, ht⟩ : ∃ z, by_ (Lib.itoa n) = z := ⟨_, rfl⟩
 rw [ht] at HX ⊢
 clear h0 h1 ht
 go_enter Tryz.func29, Tryz.ntmps29
 go_wp2_with (go_at_call 47; (with_reducible refine (HX.out _).mono ?_); rintro q w' ⟨rfl, hb⟩; have HB := Aside0.mk hb; clear hb)
 go_ret
 exact ⟨rfl, HB.out⟩
end Go.Proofs.YtneepokiioefgaaGreatDoor.Pools
namespace Go.Proofs.YtneepokiioefgaaGreatDoor.Pools
open Go.RowKit Go.Toks Go.Proofs.YtneepokiioefgaaGreatDoorW.PrintWords Go.Proofs.YtneepokiioefgaaGreatDoorW.PrintLast Go.Proofs.YtneepokiioefgaaGreatDoorW.PrintMore
theorem class0 {op : Int} {s : List UInt8} (h : Row op s 0) : op = 8 ∨ op = 14 ∨ op = 15 ∨ (op < 1 ∨ 21 < op) := by
 rcases h with h | ⟨h, -, h2⟩
 ·rcases row_in h with ⟨rfl, -, h2⟩ | ⟨rfl, -, h2⟩ | ⟨rfl, -, h2⟩ | ⟨rfl, -, h2⟩ | ⟨rfl, -, h2⟩ | ⟨rfl, -, h2⟩ | ⟨rfl, -, h2⟩ | ⟨rfl, -, h2⟩ | ⟨rfl, -, h2⟩ | ⟨rfl, -, h2⟩ | ⟨rfl, -, h2⟩ | ⟨rfl, -, h2⟩ | ⟨rfl, -, h2⟩ | ⟨rfl, -, h2⟩ | ⟨rfl, -, h2⟩ | ⟨rfl, -, h2⟩ | ⟨rfl, -, h2⟩ | ⟨rfl, -, h2⟩ | ⟨rfl, -, h2⟩ | ⟨rfl, -, h2⟩ | ⟨rfl, -, h2⟩ <;> first | (cases h2; done) | simp
 ·have := row_out h
  omega
theorem class1 {op : Int} {s : List UInt8} (h : Row op s 1) : op = 1 ∨ op = 16 ∨ op = 21 := by
 rcases h with h | ⟨h, -, h2⟩
 ·rcases row_in h with ⟨rfl, -, h2⟩ | ⟨rfl, -, h2⟩ | ⟨rfl, -, h2⟩ | ⟨rfl, -, h2⟩ | ⟨rfl, -, h2⟩ | ⟨rfl, -, h2⟩ | ⟨rfl, -, h2⟩ | ⟨rfl, -, h2⟩ | ⟨rfl, -, h2⟩ | ⟨rfl, -, h2⟩ | ⟨rfl, -, h2⟩ | ⟨rfl, -, h2⟩ | ⟨rfl, -, h2⟩ | ⟨rfl, -, h2⟩ | ⟨rfl, -, h2⟩ | ⟨rfl, -, h2⟩ | ⟨rfl, -, h2⟩ | ⟨rfl, -, h2⟩ | ⟨rfl, -, h2⟩ | ⟨rfl, -, h2⟩ | ⟨rfl, -, h2⟩ <;> first | (cases h2; done) | simp
 ·cases h2
theorem class2 {op : Int} {s : List UInt8} (h : Row op s 2) : op = 4 := by
 rcases h with h | ⟨h, -, h2⟩
 ·rcases row_in h with ⟨rfl, -, h2⟩ | ⟨rfl, -, h2⟩ | ⟨rfl, -, h2⟩ | ⟨rfl, -, h2⟩ | ⟨rfl, -, h2⟩ | ⟨rfl, -, h2⟩ | ⟨rfl, -, h2⟩ | ⟨rfl, -, h2⟩ | ⟨rfl, -, h2⟩ | ⟨rfl, -, h2⟩ | ⟨rfl, -, h2⟩ | ⟨rfl, -, h2⟩ | ⟨rfl, -, h2⟩ | ⟨rfl, -, h2⟩ | ⟨rfl, -, h2⟩ | ⟨rfl, -, h2⟩ | ⟨rfl, -, h2⟩ | ⟨rfl, -, h2⟩ | ⟨rfl, -, h2⟩ | ⟨rfl, -, h2⟩ | ⟨rfl, -, h2⟩ <;> first | (cases h2; done) | simp
 ·cases h2
theorem class3 {op : Int} {s : List UInt8} (h : Row op s 3) : op = 2 ∨ op = 6 ∨ op = 7 ∨ op = 9 ∨ op = 10 ∨ op = 11 ∨ op = 12 ∨ op = 13 ∨ op = 18 ∨ op = 19 := by
 rcases h with h | ⟨h, -, h2⟩
 ·rcases row_in h with ⟨rfl, -, h2⟩ | ⟨rfl, -, h2⟩ | ⟨rfl, -, h2⟩ | ⟨rfl, -, h2⟩ | ⟨rfl, -, h2⟩ | ⟨rfl, -, h2⟩ | ⟨rfl, -, h2⟩ | ⟨rfl, -, h2⟩ | ⟨rfl, -, h2⟩ | ⟨rfl, -, h2⟩ | ⟨rfl, -, h2⟩ | ⟨rfl, -, h2⟩ | ⟨rfl, -, h2⟩ | ⟨rfl, -, h2⟩ | ⟨rfl, -, h2⟩ | ⟨rfl, -, h2⟩ | ⟨rfl, -, h2⟩ | ⟨rfl, -, h2⟩ | ⟨rfl, -, h2⟩ | ⟨rfl, -, h2⟩ | ⟨rfl, -, h2⟩ <;> first | (cases h2; done) | simp
 ·cases h2
theorem class4 {op : Int} {s : List UInt8} (h : Row op s 4) : op = 3 ∨ op = 5 ∨ op = 17 ∨ op = 20 := by
 rcases h with h | ⟨h, -, h2⟩
 ·rcases row_in h with ⟨rfl, -, h2⟩ | ⟨rfl, -, h2⟩ | ⟨rfl, -, h2⟩ | ⟨rfl, -, h2⟩ | ⟨rfl, -, h2⟩ | ⟨rfl, -, h2⟩ | ⟨rfl, -, h2⟩ | ⟨rfl, -, h2⟩ | ⟨rfl, -, h2⟩ | ⟨rfl, -, h2⟩ | ⟨rfl, -, h2⟩ | ⟨rfl, -, h2⟩ | ⟨rfl, -, h2⟩ | ⟨rfl, -, h2⟩ | ⟨rfl, -, h2⟩ | ⟨rfl, -, h2⟩ | ⟨rfl, -, h2⟩ | ⟨rfl, -, h2⟩ | ⟨rfl, -, h2⟩ | ⟨rfl, -, h2⟩ | ⟨rfl, -, h2⟩ <;> first | (cases h2; done) | simp
 ·cases h2
theorem by_size (l : List UInt8) : (by_ l).size = l.length := by
 show l.toArray.size = _
 rw [List.size_toArray]
theorem by_app (s x : List UInt8) : by_ s ++ ⟨#[32]⟩ ++ by_ x = by_ (Lib.join [s, x] [32]) := by
 apply ByteArray.ext
 simp [by_, Lib.join, List.intercalate]
theorem by_app2 (s x y : List UInt8) : by_ s ++ ⟨#[32]⟩ ++ by_ x ++ ⟨#[32]⟩ ++ by_ y = by_ (Lib.join [s, x, y] [32]) := by
 apply ByteArray.ext
 simp [by_, Lib.join, List.intercalate]
theorem len1 (s : List UInt8) : (Lib.join [s] [32]).length = s.length := by simp [Lib.join, List.intercalate]
theorem len2 (s x : List UInt8) : (Lib.join [s, x] [32]).length = s.length + 1 + x.length := by simp [Lib.join, List.intercalate]; omega
theorem len3 (s x y : List UInt8) : (Lib.join [s, x, y] [32]).length = s.length + 1 + x.length + 1 + y.length := by simp [Lib.join, List.intercalate]; omega
set_option maxRecDepth 100000 in
theorem rshow_bare {op : Int} {s : List UInt8} (hr : Row op s 0) (a b : Int) (name : List UInt8) (w : World) :
  Calls Tryz.prog 9 #[.agg #[.int .i64 op, .int .i64 a, .int .i64 b], .string (by_ name)] w fun e w' => e = .returned (.string (by_ (Lib.join [s] [32]))) ∧ Below w.heap.size w w' := by
 have HN := Aside0.mk (fun w => r_name hr w)
 have HB := Aside0.mk (Below.refl w.heap.size w)
 have HH := Aside0.mk (fun (w1 w2 : World) (h : Below w1.heap.size w1 w2) (k : Below w.heap.size w w1) => below_step k h)
 have hs := row_len hr
 rw [Lib.join_one]
 have HX : Aside0 (∀ w', Below (w.alloc (Obj.cells #[Value.int IntKind.i64 op, Value.int IntKind.i64 a, Value.int IntKind.i64 b] 23)).heap.size (w.alloc (Obj.cells #[Value.int IntKind.i64 op, Value.int IntKind.i64 a, Value.int IntKind.i64 b] 23)) w' → w'.cell? ⟨w.heap.size, 0, none⟩ = some (.int .i64 op) ∧ w'.cell? ⟨w.heap.size, 1, none⟩ = some (.int .i64 a) ∧ w'.cell? ⟨w.heap.size, 2, none⟩ = some (.int .i64 b)) :=
  ⟨fun w' h => ⟨pw_cell_below h (by rw [blk_cell (blk_new w _)]; rfl), pw_cell_below h (by rw [blk_cell (blk_new w _)]; rfl), pw_cell_below h (by rw [blk_cell (blk_new w _)]; rfl)⟩⟩
 have hc := class0 hr
 clear hr hs
 generalize by_ s = sb at *
 generalize by_ name = nb at *
 rcases hc with rfl | rfl | rfl | hc
 ·(go_enter Tryz.func9, Tryz.ntmps9; go_wp2_with (first
   | (go_at_call 27; (with_reducible refine (HN.out _).mono ?_); rintro q w' ⟨rfl, hb⟩; obtain ⟨y0, y1, y2⟩ := HX.out _ hb; have n0_ := Aside0.mk (HH.out _ _ hb (below_alloc HB.out _)); clear HB hb; have HB := n0_; clear n0_)); go_ret; exact ⟨rfl, HB.out⟩)
 ·(go_enter Tryz.func9, Tryz.ntmps9; go_wp2_with (first
   | (go_at_call 27; (with_reducible refine (HN.out _).mono ?_); rintro q w' ⟨rfl, hb⟩; obtain ⟨y0, y1, y2⟩ := HX.out _ hb; have n0_ := Aside0.mk (HH.out _ _ hb (below_alloc HB.out _)); clear HB hb; have HB := n0_; clear n0_)); go_ret; exact ⟨rfl, HB.out⟩)
 ·(go_enter Tryz.func9, Tryz.ntmps9; go_wp2_with (first
   | (go_at_call 27; (with_reducible refine (HN.out _).mono ?_); rintro q w' ⟨rfl, hb⟩; obtain ⟨y0, y1, y2⟩ := HX.out _ hb; have n0_ := Aside0.mk (HH.out _ _ hb (below_alloc HB.out _)); clear HB hb; have HB := n0_; clear n0_)); go_ret; exact ⟨rfl, HB.out⟩)
 ·
  have n1 : (op == 1) = false := by rw [beq_eq_false_iff_ne]; omega
  have m1 := decide_eq_false (show ¬ op = 1 by omega)
  have q1 : ¬ op = 1 := by omega
  have n2 : (op == 2) = false := by rw [beq_eq_false_iff_ne]; omega
  have m2 := decide_eq_false (show ¬ op = 2 by omega)
  have q2 : ¬ op = 2 := by omega
  have n3 : (op == 3) = false := by rw [beq_eq_false_iff_ne]; omega
  have m3 := decide_eq_false (show ¬ op = 3 by omega)
  have q3 : ¬ op = 3 := by omega
  have n4 : (op == 4) = false := by rw [beq_eq_false_iff_ne]; omega
  have m4 := decide_eq_false (show ¬ op = 4 by omega)
  have q4 : ¬ op = 4 := by omega
  have n5 : (op == 5) = false := by rw [beq_eq_false_iff_ne]; omega
  have m5 := decide_eq_false (show ¬ op = 5 by omega)
  have q5 : ¬ op = 5 := by omega
  have n6 : (op == 6) = false := by rw [beq_eq_false_iff_ne]; omega
  have m6 := decide_eq_false (show ¬ op = 6 by omega)
  have q6 : ¬ op = 6 := by omega
  have n7 : (op == 7) = false := by rw [beq_eq_false_iff_ne]; omega
  have m7 := decide_eq_false (show ¬ op = 7 by omega)
  have q7 : ¬ op = 7 := by omega
  have n8 : (op == 8) = false := by rw [beq_eq_false_iff_ne]; omega
  have m8 := decide_eq_false (show ¬ op = 8 by omega)
  have q8 : ¬ op = 8 := by omega
  have n9 : (op == 9) = false := by rw [beq_eq_false_iff_ne]; omega
  have m9 := decide_eq_false (show ¬ op = 9 by omega)
  have q9 : ¬ op = 9 := by omega
  have n10 : (op == 10) = false := by rw [beq_eq_false_iff_ne]; omega
  have m10 := decide_eq_false (show ¬ op = 10 by omega)
  have q10 : ¬ op = 10 := by omega
  have n11 : (op == 11) = false := by rw [beq_eq_false_iff_ne]; omega
  have m11 := decide_eq_false (show ¬ op = 11 by omega)
  have q11 : ¬ op = 11 := by omega
  have n12 : (op == 12) = false := by rw [beq_eq_false_iff_ne]; omega
  have m12 := decide_eq_false (show ¬ op = 12 by omega)
  have q12 : ¬ op = 12 := by omega
  have n13 : (op == 13) = false := by rw [beq_eq_false_iff_ne]; omega
  have m13 := decide_eq_false (show ¬ op = 13 by omega)
  have q13 : ¬ op = 13 := by omega
  have n14 : (op == 14) = false := by rw [beq_eq_false_iff_ne]; omega
  have m14 := decide_eq_false (show ¬ op = 14 by omega)
  have q14 : ¬ op = 14 := by omega
  have n15 : (op == 15) = false := by rw [beq_eq_false_iff_ne]; omega
  have m15 := decide_eq_false (show ¬ op = 15 by omega)
  have q15 : ¬ op = 15 := by omega
  have n16 : (op == 16) = false := by rw [beq_eq_false_iff_ne]; omega
  have m16 := decide_eq_false (show ¬ op = 16 by omega)
  have q16 : ¬ op = 16 := by omega
  have n17 : (op == 17) = false := by rw [beq_eq_false_iff_ne]; omega
  have m17 := decide_eq_false (show ¬ op = 17 by omega)
  have q17 : ¬ op = 17 := by omega
  have n18 : (op == 18) = false := by rw [beq_eq_false_iff_ne]; omega
  have m18 := decide_eq_false (show ¬ op = 18 by omega)
  have q18 : ¬ op = 18 := by omega
  have n19 : (op == 19) = false := by rw [beq_eq_false_iff_ne]; omega
  have m19 := decide_eq_false (show ¬ op = 19 by omega)
  have q19 : ¬ op = 19 := by omega
  have n20 : (op == 20) = false := by rw [beq_eq_false_iff_ne]; omega
  have m20 := decide_eq_false (show ¬ op = 20 by omega)
  have q20 : ¬ op = 20 := by omega
  have n21 : (op == 21) = false := by rw [beq_eq_false_iff_ne]; omega
  have m21 := decide_eq_false (show ¬ op = 21 by omega)
  have q21 : ¬ op = 21 := by omega
  clear hc
  (go_enter Tryz.func9, Tryz.ntmps9; go_wp2_with (first
   | (go_at_call 27; (with_reducible refine (HN.out _).mono ?_); rintro q w' ⟨rfl, hb⟩; obtain ⟨y0, y1, y2⟩ := HX.out _ hb; have n0_ := Aside0.mk (HH.out _ _ hb (below_alloc HB.out _)); clear HB hb; have HB := n0_; clear n0_)); go_ret; exact ⟨rfl, HB.out⟩)
set_option maxRecDepth 100000 in
theorem rshow_named {op : Int} {s : List UInt8} (hr : Row op s 1) (a b : Int) (name : List UInt8) (hn : name.length ≤ 300) (w : World) :
  Calls Tryz.prog 9 #[.agg #[.int .i64 op, .int .i64 a, .int .i64 b], .string (by_ name)] w fun e w' => e = .returned (.string (by_ (Lib.join [s, name] [32]))) ∧ Below w.heap.size w w' := by
 have HN := Aside0.mk (fun w => r_name hr w)
 have HB := Aside0.mk (Below.refl w.heap.size w)
 have HH := Aside0.mk (fun (w1 w2 : World) (h : Below w1.heap.size w1 w2) (k : Below w.heap.size w w1) => below_step k h)
 have hs := row_len hr
 rw [← by_app]
 have k1 : ¬ 9223372036854775807 < (by_ s).size + 1 := by rw [by_size]; omega
 have k2 : ¬ 9223372036854775807 < (by_ s).size + 1 + (by_ name).size := by rw [by_size, by_size]; omega
 have HX : Aside0 (∀ w', Below (w.alloc (Obj.cells #[Value.int IntKind.i64 op, Value.int IntKind.i64 a, Value.int IntKind.i64 b] 23)).heap.size (w.alloc (Obj.cells #[Value.int IntKind.i64 op, Value.int IntKind.i64 a, Value.int IntKind.i64 b] 23)) w' → w'.cell? ⟨w.heap.size, 0, none⟩ = some (.int .i64 op) ∧ w'.cell? ⟨w.heap.size, 1, none⟩ = some (.int .i64 a) ∧ w'.cell? ⟨w.heap.size, 2, none⟩ = some (.int .i64 b)) :=
  ⟨fun w' h => ⟨pw_cell_below h (by rw [blk_cell (blk_new w _)]; rfl), pw_cell_below h (by rw [blk_cell (blk_new w _)]; rfl), pw_cell_below h (by rw [blk_cell (blk_new w _)]; rfl)⟩⟩
 have hc := class1 hr
 clear hr hs hn
 generalize by_ s = sb at *
 generalize by_ name = t0 at *
 rcases hc with rfl | rfl | rfl <;> (go_enter Tryz.func9, Tryz.ntmps9; go_wp2_with (first
   | (go_at_call 27; (with_reducible refine (HN.out _).mono ?_); rintro q w' ⟨rfl, hb⟩; obtain ⟨y0, y1, y2⟩ := HX.out _ hb; have n0_ := Aside0.mk (HH.out _ _ hb (below_alloc HB.out _)); clear HB hb; have HB := n0_; clear n0_)); go_ret; exact ⟨rfl, HB.out⟩)
set_option maxRecDepth 100000 in
theorem rshow_one {op : Int} {s : List UInt8} (hr : Row op s 3) (a b : Int) (ha0 : -9223372036854775808 ≤ a) (ha1 : a ≤ 9223372036854775807) (name : List UInt8) (w : World) :
  Calls Tryz.prog 9 #[.agg #[.int .i64 op, .int .i64 a, .int .i64 b], .string (by_ name)] w fun e w' => e = .returned (.string (by_ (Lib.join [s, Lib.itoa a] [32]))) ∧ Below w.heap.size w w' := by
 have HN := Aside0.mk (fun w => r_name hr w)
 have HB := Aside0.mk (Below.refl w.heap.size w)
 have HH := Aside0.mk (fun (w1 w2 : World) (h : Below w1.heap.size w1 w2) (k : Below w.heap.size w w1) => below_step k h)
 have hs := row_len hr
 have HI := Aside0.mk (fun w => r8_Decimal w a ha0 ha1)
 have la := Lib.itoa_length_le a ha0 ha1
 rw [← by_app]
 have k1 : ¬ 9223372036854775807 < (by_ s).size + 1 := by rw [by_size]; omega
 have k2 : ¬ 9223372036854775807 < (by_ s).size + 1 + (by_ (Lib.itoa a)).size := by rw [by_size, by_size]; omega
 have HX : Aside0 (∀ w', Below (w.alloc (Obj.cells #[Value.int IntKind.i64 op, Value.int IntKind.i64 a, Value.int IntKind.i64 b] 23)).heap.size (w.alloc (Obj.cells #[Value.int IntKind.i64 op, Value.int IntKind.i64 a, Value.int IntKind.i64 b] 23)) w' → w'.cell? ⟨w.heap.size, 0, none⟩ = some (.int .i64 op) ∧ w'.cell? ⟨w.heap.size, 1, none⟩ = some (.int .i64 a) ∧ w'.cell? ⟨w.heap.size, 2, none⟩ = some (.int .i64 b)) :=
  ⟨fun w' h => ⟨pw_cell_below h (by rw [blk_cell (blk_new w _)]; rfl), pw_cell_below h (by rw [blk_cell (blk_new w _)]; rfl), pw_cell_below h (by rw [blk_cell (blk_new w _)]; rfl)⟩⟩
 have hc := class3 hr
 clear hr hs ha0 ha1 la
 generalize by_ s = sb at *
 generalize by_ (Lib.itoa a) = t0 at *
 generalize by_ name = nb at *
 rcases hc with rfl | rfl | rfl | rfl | rfl | rfl | rfl | rfl | rfl | rfl <;> (go_enter Tryz.func9, Tryz.ntmps9; go_wp2_with (first
   | (go_at_call 27; (with_reducible refine (HN.out _).mono ?_); rintro q w' ⟨rfl, hb⟩; obtain ⟨y0, y1, y2⟩ := HX.out _ hb; have n0_ := Aside0.mk (HH.out _ _ hb (below_alloc HB.out _)); clear HB hb; have HB := n0_; clear n0_)
   | (go_at_call 29; (with_reducible refine (HI.out _).mono ?_); rintro q w' ⟨rfl, hb⟩; have n0_ := Aside0.mk (HH.out _ _ hb HB.out); clear HB hb; have HB := n0_; clear n0_)); go_ret; exact ⟨rfl, HB.out⟩)
set_option maxRecDepth 100000 in
theorem rshow_two4 {op : Int} {s : List UInt8} (hr : Row op s 4) (a b : Int) (ha0 : -9223372036854775808 ≤ a) (ha1 : a ≤ 9223372036854775807) (hb0 : -9223372036854775808 ≤ b) (hb1 : b ≤ 9223372036854775807) (name : List UInt8) (w : World) :
  Calls Tryz.prog 9 #[.agg #[.int .i64 op, .int .i64 a, .int .i64 b], .string (by_ name)] w fun e w' => e = .returned (.string (by_ (Lib.join [s, Lib.itoa a, Lib.itoa b] [32]))) ∧ Below w.heap.size w w' := by
 have HN := Aside0.mk (fun w => r_name hr w)
 have HB := Aside0.mk (Below.refl w.heap.size w)
 have HH := Aside0.mk (fun (w1 w2 : World) (h : Below w1.heap.size w1 w2) (k : Below w.heap.size w w1) => below_step k h)
 have hs := row_len hr
 have HI := Aside0.mk (fun w => r8_Decimal w a ha0 ha1)
 have la := Lib.itoa_length_le a ha0 ha1
 have HK := Aside0.mk (fun w => r8_Decimal w b hb0 hb1)
 have lb := Lib.itoa_length_le b hb0 hb1
 rw [← by_app2]
 have k1 : ¬ 9223372036854775807 < (by_ s).size + 1 := by rw [by_size]; omega
 have k2 : ¬ 9223372036854775807 < (by_ s).size + 1 + (by_ (Lib.itoa a)).size := by rw [by_size, by_size]; omega
 have k3 : ¬ 9223372036854775807 < (by_ s).size + 1 + (by_ (Lib.itoa a)).size + 1 := by rw [by_size, by_size]; omega
 have k4 : ¬ 9223372036854775807 < (by_ s).size + 1 + (by_ (Lib.itoa a)).size + 1 + (by_ (Lib.itoa b)).size := by rw [by_size, by_size, by_size]; omega
 have HX : Aside0 (∀ w', Below (w.alloc (Obj.cells #[Value.int IntKind.i64 op, Value.int IntKind.i64 a, Value.int IntKind.i64 b] 23)).heap.size (w.alloc (Obj.cells #[Value.int IntKind.i64 op, Value.int IntKind.i64 a, Value.int IntKind.i64 b] 23)) w' → w'.cell? ⟨w.heap.size, 0, none⟩ = some (.int .i64 op) ∧ w'.cell? ⟨w.heap.size, 1, none⟩ = some (.int .i64 a) ∧ w'.cell? ⟨w.heap.size, 2, none⟩ = some (.int .i64 b)) :=
  ⟨fun w' h => ⟨pw_cell_below h (by rw [blk_cell (blk_new w _)]; rfl), pw_cell_below h (by rw [blk_cell (blk_new w _)]; rfl), pw_cell_below h (by rw [blk_cell (blk_new w _)]; rfl)⟩⟩
 have hc := class4 hr
 clear hr hs ha0 ha1 la hb0 hb1 lb
 generalize by_ s = sb at *
 generalize by_ (Lib.itoa a) = t0 at *
 generalize by_ (Lib.itoa b) = t1 at *
 generalize by_ name = nb at *
 rcases hc with rfl | rfl | rfl | rfl <;> (go_enter Tryz.func9, Tryz.ntmps9; go_upto_region 24 with (go_at_call 27; (with_reducible refine (HN.out _).mono ?_); rintro q w' ⟨rfl, hb⟩; obtain ⟨y0, y1, y2⟩ := HX.out _ hb; have n0_ := Aside0.mk (HH.out _ _ hb (below_alloc HB.out _)); clear HB hb; have HB := n0_; clear n0_); replace HB := HB.out; go_region_held3 (fun w' => w'.cell? ⟨w.heap.size, 1, none⟩ = some (.int .i64 a) ∧ w'.cell? ⟨w.heap.size, 2, none⟩ = some (.int .i64 b) ∧ Below w.heap.size w w')
  (((try go_split_ands); refine ⟨?_, ?_, ?_⟩ <;> first
   | assumption
   | exact pw_cell_below hb_ (by assumption)
   | exact pw_cell_below (below_drew (Below.refl _ _)) (by assumption)
   | exact below_drew (by assumption)
   | exact Below.trans (by assumption) (hb_.mono (Below.size (by assumption)))))
  (first
   | (go_at_call 29; (refine (HI.out _).mono ?_); rintro q w2 ⟨rfl, hb_⟩)
   | (go_at_call 29; (refine (HK.out _).mono ?_); rintro q w2 ⟨rfl, hb_⟩)); (try go_split_ands); go_wp2; go_ret; exact ⟨by first | rfl | assumption, by assumption⟩)
set_option maxRecDepth 100000 in
theorem rshow_float {op : Int} {s : List UInt8} (hr : Row op s 2) (a b : Int) (u : Int) (hu : IntKind.u64.wrap a = u) (X : List UInt8) (hX : X.length ≤ 2000) (HS : Aside0 (∀ w, Calls Tryz.prog 28 #[.int .u64 u, .int .i64 17] w fun e w' => e = .returned (.string (by_ X)) ∧ Below w.heap.size w w')) (name : List UInt8) (w : World) :
  Calls Tryz.prog 9 #[.agg #[.int .i64 op, .int .i64 a, .int .i64 b], .string (by_ name)] w fun e w' => e = .returned (.string (by_ (Lib.join [s, X] [32]))) ∧ Below w.heap.size w w' := by
 have HN := Aside0.mk (fun w => r_name hr w)
 have HB := Aside0.mk (Below.refl w.heap.size w)
 have HH := Aside0.mk (fun (w1 w2 : World) (h : Below w1.heap.size w1 w2) (k : Below w.heap.size w w1) => below_step k h)
 have hs := row_len hr
 rw [← by_app]
 have k1 : ¬ 9223372036854775807 < (by_ s).size + 1 := by rw [by_size]; omega
 have k2 : ¬ 9223372036854775807 < (by_ s).size + 1 + (by_ X).size := by rw [by_size, by_size]; omega
 have HX : Aside0 (∀ w', Below (w.alloc (Obj.cells #[Value.int IntKind.i64 op, Value.int IntKind.i64 a, Value.int IntKind.i64 b] 23)).heap.size (w.alloc (Obj.cells #[Value.int IntKind.i64 op, Value.int IntKind.i64 a, Value.int IntKind.i64 b] 23)) w' → w'.cell? ⟨w.heap.size, 0, none⟩ = some (.int .i64 op) ∧ w'.cell? ⟨w.heap.size, 1, none⟩ = some (.int .i64 a) ∧ w'.cell? ⟨w.heap.size, 2, none⟩ = some (.int .i64 b)) :=
  ⟨fun w' h => ⟨pw_cell_below h (by rw [blk_cell (blk_new w _)]; rfl), pw_cell_below h (by rw [blk_cell (blk_new w _)]; rfl), pw_cell_below h (by rw [blk_cell (blk_new w _)]; rfl)⟩⟩
 have hc := class2 hr
 clear hr hs hX
 generalize by_ s = sb at *
 generalize by_ X = t0 at *
 generalize by_ name = nb at *
 rcases hc with rfl <;> (go_enter Tryz.func9, Tryz.ntmps9; go_wp2_with (first
   | (go_at_call 27; (with_reducible refine (HN.out _).mono ?_); rintro q w' ⟨rfl, hb⟩; obtain ⟨y0, y1, y2⟩ := HX.out _ hb; have n0_ := Aside0.mk (HH.out _ _ hb (below_alloc HB.out _)); clear HB hb; have HB := n0_; clear n0_)
   | (go_at_call 28; (with_reducible refine (HS.out _).mono ?_); rintro q w' ⟨rfl, hb⟩; have n0_ := Aside0.mk (HH.out _ _ hb HB.out); clear HB hb; have HB := n0_; clear n0_)); go_ret; exact ⟨rfl, HB.out⟩)
end Go.Proofs.YtneepokiioefgaaGreatDoor.Pools
set_option maxHeartbeats 32000000
namespace Go
theorem md_ {p : Prop} (h : p) : Go.Proofs.YtneepokiioefgaaGreatDoorW.PrintWords.Aside0 p := ⟨h⟩
end Go
namespace Go.RowKit
open Go.Proofs.YtneepokiioefgaaGreatDoorW.PrintWords Go.Proofs.YtneepokiioefgaaGreatDoorW.PrintLast Go.Proofs.YtneepokiioefgaaGreatDoorW.PrintMore
theorem oi_ {α : Type} {p : Prop} [Decidable p] {a : Option α} {r : α} (h : (if p then a else none) = some r) : p ∧ a = some r := by
 by_cases c : p
 ·rw [if_pos c] at h; exact ⟨c, h⟩
 ·rw [if_neg c] at h; cases h
theorem od_ {α : Type} {p : Prop} [Decidable p] {a : Option α} {r : α} (h : (if p then a else none) = some r) : decide p = true ∧ a = some r := ⟨decide_eq_true (oi_ h).1, (oi_ h).2⟩
theorem vb_ {α : Type} {d : Kd α} {e base : Nat} {w1 w2 w3 : World} {ok : Nat → Prop} {v : Value} {xs : List α} (h : Aside0 (Kd.V d e w1 base ok v xs)) (hb : Below w2.heap.size w2 w3) (k : Kd.V d e w1 base ok v xs → Kd.V d e w2 base ok v xs := by intro H_; (with_reducible repeat (first | apply Kd.V_alloc | apply Kd.V_drewN | apply Kd.V_drew)); exact H_) : Aside0 (Kd.V d e w3 base ok v xs) := ⟨Kd.V_below (k h.out) hb⟩
theorem bb_ {w w1 w2 w3 : World} (h : Aside0 (Below w.heap.size w w1)) (hb : Below w2.heap.size w2 w3) (k : Below w.heap.size w w1 → Below w.heap.size w w2 := by intro HB; repeat (first | (with_reducible first | exact HB | apply below_alloc | apply pw_below_drewN | apply below_drew1) | exact HB)) : Aside0 (Below w.heap.size w w3) := ⟨below_step (k h.out) hb⟩
theorem pq_ {P : Program} {ops : Array Oper} {Q : Exit → Act → World → Prop} {md : Region.Mode} {S : World → Prop} {ds : List Nat} {T : Bool × List (List Nat × List Nat)} (i : Nat) (N : Option Tmp) {oi : Oper} {v : Value} {fuel : Nat} {l : Array Bool} {a a' : Act} {w : World} (hT : Aside0 (rtab md ops = T)) (h : wpAnyLast P md ops Q S ds fuel (l.setIfInBounds i true) a' w) (hi : ops[i]? = some oi := by exact rfl) (hN : oi.dst = N := by exact rfl) (hc : anyT T l.toList (l.toList.set i true) i = true := by kernel_rfl) (hQ : ∀ c a w, Q (.panic c) (a.put oi.dst v) w → Q (.panic c) a w := by exact fun _ _ _ h => h) (hy : Yields P ops oi v a := by refine Or.inl ⟨by rfl, ?_⟩; intro w'; go_simp; with_reducible rfl) (ha : a.put N v = a' := by simp only [Act.put, List.setIfInBounds_toArray, List.set_cons_zero, List.set_cons_succ, i64_w, i32_w]; rfl) : wpAnyLast P md ops Q S ds (fuel + 1) l a w :=
 pure_ (l.setIfInBounds i true) hi hN (any_of hT.out (by rw [Array.toList_setIfInBounds]; exact hc)) hQ hy ha h
theorem bq_ {n : Nat} {w w1 w2 : World} (h : Below n w w1) (k : Below n w w1 → Below n w w2 := by intro HB; repeat (first | (with_reducible first | exact HB | apply below_alloc | apply pw_below_drewN | apply below_drew1) | exact HB)) : Below n w w2 := k h
theorem vq_ {α : Type} {d : Kd α} {e base : Nat} {w1 w2 : World} {ok : Nat → Prop} {v : Value} {xs : List α} (h : Kd.V d e w1 base ok v xs) (k : Kd.V d e w1 base ok v xs → Kd.V d e w2 base ok v xs := by intro H_; (with_reducible repeat (first | apply Kd.V_alloc | apply Kd.V_drewN | apply Kd.V_drew)); exact H_) : Kd.V d e w2 base ok v xs := k h
theorem rq_ {α : Type} {d : Kd α} {e base : Nat} {w1 w2 : World} {ok : Nat → Prop} {v : Value} {xs : List α} (h : Kd.R d e w1 base ok v xs) (k : Kd.R d e w1 base ok v xs → Kd.R d e w2 base ok v xs := by intro H_; (with_reducible repeat (first | apply Kd.R_alloc | apply Kd.R_drewN | apply Kd.R_drew)); exact H_) : Kd.R d e w2 base ok v xs := k h
theorem gq_ {p : Prop} (h : p := by (try simp only [List.map_toArray, List.map_cons, List.map_nil]); first | done | rfl | (simp only [List.length_drop, List.length_take]; rfl)) : p := h
theorem oq_ {p : Prop} [Decidable p] (h : decide p = true := by first | (with_reducible assumption) | assumption) : p := of_decide_eq_true h
theorem ew_ {p : Prop} (h : p := by first | rfl | (simp [errW_none, errW_some] <;> rfl) | (simp [*, errW_none, errW_some] <;> rfl)) : p := h
theorem aq_ {p : Prop} (h : p := by first | rfl | (simp; done) | (simp [*]; done)) : p := h
theorem bt_ {w w1 w2 : World} (h : Aside0 (Below w.heap.size w w1)) (hb : Below w1.heap.size w1 w2) : Aside0 (Below w.heap.size w w2) := ⟨below_step h.out hb⟩
end Go.RowKit
namespace Go
end Go
set_option maxHeartbeats 32000000
namespace Go.Num
def valN : List Int → Nat
 | [] => 0
 | x :: xs => x.toNat + 4294967296 * valN xs
def okW (l : List Int) : Prop := ∀ x ∈ l, 0 ≤ x ∧ x < 4294967296
theorem okW_nil : okW [] := fun _ h => by cases h
theorem okW_cons {x : Int} {l : List Int} : okW (x :: l) ↔ (0 ≤ x ∧ x < 4294967296) ∧ okW l := by simp [okW]
theorem okW_append {l m : List Int} : okW (l ++ m) ↔ okW l ∧ okW m := by
 constructor
 ·intro h
  exact ⟨fun x hx => h x (List.mem_append_left _ hx), fun x hx => h x (List.mem_append_right _ hx)⟩
 ·rintro ⟨h1, h2⟩ x hx
  rcases List.mem_append.1 hx with h | h
  ·exact h1 x h
  ·exact h2 x h
theorem okW_take {l : List Int} (h : okW l) (n : Nat) : okW (l.take n) := fun x hx => h x (List.mem_of_mem_take hx)
theorem okW_drop {l : List Int} (h : okW l) (n : Nat) : okW (l.drop n) := fun x hx => h x (List.mem_of_mem_drop hx)
theorem okW_get {l : List Int} (h : okW l) (i : Nat) : 0 ≤ l.getD i 0 ∧ l.getD i 0 < 4294967296 := by
 rw [List.getD_eq_getElem?_getD]
 by_cases hi : i < l.length
 ·rw [List.getElem?_eq_getElem hi]
  exact h _ (List.getElem_mem hi)
 ·rw [List.getElem?_eq_none (by omega)]
  simp
theorem valN_append (l m : List Int) : valN (l ++ m) = valN l + 4294967296 ^ l.length * valN m := by
 induction l with
 | nil => simp [valN]
 | cons x xs ih =>
  simp only [List.cons_append, valN, ih, List.length_cons, Nat.pow_succ, Nat.mul_add]
  rw [Nat.mul_comm (4294967296 ^ xs.length) 4294967296, Nat.mul_assoc]
  omega
theorem valN_lt {l : List Int} (h : okW l) : valN l < 4294967296 ^ l.length := by
 induction l with
 | nil => simp [valN]
 | cons x xs ih =>
  have h1 := (okW_cons.1 h).1
  have h2 := ih (okW_cons.1 h).2
  simp only [valN, List.length_cons, Nat.pow_succ]
  omega
def trimW : List Int → List Int
 | [] => []
 | x :: xs => if trimW xs = [] then (if x = 0 then [] else [x]) else x :: trimW xs
theorem trimW_cons (x : Int) (xs : List Int) : trimW (x :: xs) = if trimW xs = [] then (if x = 0 then [] else [x]) else x :: trimW xs := rfl
theorem trimW_length_le (l : List Int) : (trimW l).length ≤ l.length := by
 induction l with
 | nil => simp [trimW]
 | cons x xs ih =>
  unfold trimW
  split
  ·split <;> simp
  ·simp only [List.length_cons]; omega
theorem trimW_val (l : List Int) : valN (trimW l) = valN l := by
 induction l with
 | nil => simp [trimW]
 | cons x xs ih =>
  unfold trimW
  split
  ·rename_i h
   rw [h] at ih
   simp [valN] at ih
   split
   ·rename_i h0
    simp [valN, ← ih, h0]
   ·simp [valN, ← ih]
  ·simp [valN, ih]
theorem trimW_take (l : List Int) : trimW l = l.take (trimW l).length := by
 induction l with
 | nil => simp [trimW]
 | cons x xs ih =>
  by_cases h : trimW xs = []
  ·by_cases h0 : x = 0
   ·have e : trimW (x :: xs) = [] := by unfold trimW; simp [h, h0]
    rw [e]; simp
   ·have e : trimW (x :: xs) = [x] := by unfold trimW; simp [h, h0]
    rw [e]; simp
  ·have e : trimW (x :: xs) = x :: trimW xs := by rw [trimW_cons, if_neg h]
   rw [e]
   simp only [List.length_cons, List.take_succ_cons]
   rw [← ih]
theorem okW_trim {l : List Int} (h : okW l) : okW (trimW l) := by rw [trimW_take]; exact okW_take h _
theorem trimW_snoc_zero (l : List Int) : trimW (l ++ [0]) = trimW l := by
 induction l with
 | nil => simp [trimW]
 | cons x xs ih => simp only [List.cons_append, trimW, ih]
theorem trimW_snoc_ne (l : List Int) {x : Int} (h : x ≠ 0) : trimW (l ++ [x]) = l ++ [x] := by
 induction l with
 | nil => simp [trimW, h]
 | cons y ys ih => simp only [List.cons_append, trimW, ih]; simp
def normed (l : List Int) : Prop := trimW l = l
theorem trimW_idem (l : List Int) : trimW (trimW l) = trimW l := by
 induction l with
 | nil => simp [trimW]
 | cons x xs ih =>
  by_cases h : trimW xs = []
  ·by_cases h0 : x = 0
   ·have e : trimW (x :: xs) = [] := by unfold trimW; simp [h, h0]
    rw [e]; simp [trimW]
   ·have e : trimW (x :: xs) = [x] := by unfold trimW; simp [h, h0]
    rw [e]; simp [trimW, h0]
  ·have e : trimW (x :: xs) = x :: trimW xs := by rw [trimW_cons, if_neg h]
   rw [e]
   show (if trimW (trimW xs) = [] then _ else _) = _
   rw [ih, if_neg h]
theorem normed_trim (l : List Int) : normed (trimW l) := trimW_idem l
theorem valN_zero {l : List Int} (h : okW l) : valN l = 0 ↔ trimW l = [] := by
 induction l with
 | nil => simp [valN, trimW]
 | cons x xs ih =>
  have h1 := (okW_cons.1 h).1
  have ih := ih (okW_cons.1 h).2
  simp only [valN]
  constructor
  ·intro h0
   have h2 : valN xs = 0 := by omega
   have h3 : x = 0 := by omega
   unfold trimW
   rw [if_pos (ih.1 h2), if_pos h3]
  ·intro h0
   unfold trimW at h0
   by_cases h2 : trimW xs = []
   ·rw [if_pos h2] at h0
    by_cases h3 : x = 0
    ·rw [ih.2 h2, h3]; rfl
    ·rw [if_neg h3] at h0; exact absurd h0 (by simp)
   ·rw [if_neg h2] at h0; exact absurd h0 (by simp)
theorem valN_inj {l m : List Int} (hl : okW l) (hm : okW m) (nl : normed l) (nm : normed m) (h : valN l = valN m) : l = m := by
 induction l generalizing m with
 | nil =>
  have : trimW m = [] := (valN_zero hm).1 (by rw [← h]; rfl)
  rw [← nm, this]
 | cons x xs ih =>
  cases m with
  | nil =>
   have : trimW (x :: xs) = [] := (valN_zero hl).1 (by rw [h]; rfl)
   rw [← nl, this]
  | cons y ys =>
   have h1 := (okW_cons.1 hl).1
   have h2 := (okW_cons.1 hm).1
   simp only [valN] at h
   have e1 : x = y := by omega
   have e2 : valN xs = valN ys := by omega
   have cut : ∀ (z : Int) (zs : List Int), normed (z :: zs) → normed zs := by
    intro z zs hn
    unfold normed at hn ⊢
    unfold trimW at hn
    by_cases h3 : trimW zs = []
    ·rw [if_pos h3] at hn
     by_cases h4 : z = 0
     ·rw [if_pos h4] at hn; exact absurd hn (by simp)
     ·rw [if_neg h4] at hn
      injection hn with _ hn
      rw [← hn]; rfl
    ·rw [if_neg h3] at hn
     injection hn
   rw [e1, ih (okW_cons.1 hl).2 (okW_cons.1 hm).2 (cut _ _ nl) (cut _ _ nm) e2]
theorem trimW_eq_of_val {l m : List Int} (hl : okW l) (hm : okW m) (h : valN l = valN m) : trimW l = trimW m :=
 valN_inj (okW_trim hl) (okW_trim hm) (normed_trim l) (normed_trim m) (by rw [trimW_val, trimW_val, h])
def shq (d : Int) : List Int → List Int × Int
 | [] => ([], 0)
 | x :: xs => (((shq d xs).2 * 4294967296 + x) / d :: (shq d xs).1, ((shq d xs).2 * 4294967296 + x) % d)
theorem shq_length (d : Int) (l : List Int) : (shq d l).1.length = l.length := by
 induction l with
 | nil => rfl
 | cons x xs ih => simp [shq, ih]
theorem shq_rest {d : Int} (hd : 0 < d) (l : List Int) : 0 ≤ (shq d l).2 ∧ (shq d l).2 < d := by
 cases l with
 | nil => exact ⟨Int.le_refl _, hd⟩
 | cons x xs => exact ⟨Int.emod_nonneg _ (by omega), Int.emod_lt_of_pos _ hd⟩
theorem shq_ok {d : Int} (hd : 0 < d) {l : List Int} (h : okW l) : okW (shq d l).1 := by
 induction l with
 | nil => exact okW_nil
 | cons x xs ih =>
  have h1 := (okW_cons.1 h).1
  have h2 := shq_rest hd xs
  refine okW_cons.2 ⟨⟨Int.ediv_nonneg (by omega) (by omega), ?_⟩, ih (okW_cons.1 h).2⟩
  rw [Int.ediv_lt_iff_lt_mul hd]
  have : ((shq d xs).2 + 1) * 4294967296 ≤ d * 4294967296 := Int.mul_le_mul_of_nonneg_right (by omega) (by omega)
  rw [Int.mul_comm 4294967296 d]
  omega
theorem shq_val {d : Int} (hd : 0 < d) {l : List Int} (h : okW l) : valN (shq d l).1 = valN l / d.toNat ∧ (shq d l).2 = ((valN l % d.toNat : Nat) : Int) := by
 induction l with
 | nil => simp [shq, valN]
 | cons x xs ih =>
  have h1 := (okW_cons.1 h).1
  have h2 := shq_rest hd xs
  obtain ⟨ih1, ih2⟩ := ih (okW_cons.1 h).2
  obtain ⟨D, rfl⟩ := Int.eq_ofNat_of_zero_le (Int.le_of_lt hd)
  obtain ⟨X, rfl⟩ := Int.eq_ofNat_of_zero_le h1.1
  have hD : 0 < D := by omega
  simp only [Int.toNat_natCast] at ih1 ih2 ⊢
  simp only [shq, valN, Int.toNat_natCast]
  rw [ih1, ih2]
  have e1 : ((((valN xs % D : Nat) : Int) * 4294967296 + (X : Int)) / (D : Int)).toNat = ((valN xs % D) * 4294967296 + X) / D := by
   rw [show (((valN xs % D : Nat) : Int) * 4294967296 + (X : Int)) = ((((valN xs % D) * 4294967296 + X : Nat)) : Int) by simp, ← Int.natCast_ediv, Int.toNat_natCast]
  have e3 : ((((valN xs % D : Nat) : Int) * 4294967296 + (X : Int)) % (D : Int)) = (((((valN xs % D) * 4294967296 + X) % D : Nat)) : Int) := by
   rw [show (((valN xs % D : Nat) : Int) * 4294967296 + (X : Int)) = ((((valN xs % D) * 4294967296 + X : Nat)) : Int) by simp, ← Int.natCast_emod]
  have e2 : X + 4294967296 * valN xs = (valN xs % D) * 4294967296 + X + D * (4294967296 * (valN xs / D)) := by
   have h5 : 4294967296 * valN xs = 4294967296 * (D * (valN xs / D) + valN xs % D) := by rw [Nat.div_add_mod]
   rw [h5, Nat.mul_add, ← Nat.mul_assoc, ← Nat.mul_assoc, Nat.mul_comm 4294967296 D]
   omega
  rw [e1, e3, e2]
  constructor
  ·rw [Nat.add_mul_div_left _ _ hD]
  ·rw [Nat.add_mul_mod_self_left]
def pcs (v : Nat) : List Int := if _h : v = 0 then [] else ((v % 1000000000 : Nat) : Int) :: pcs (v / 1000000000)
termination_by v
decreasing_by exact Nat.div_lt_self (by omega) (by decide)
theorem pcs_zero : pcs 0 = [] := by rw [pcs]; simp
theorem pcs_pos {v : Nat} (h : 0 < v) : pcs v = ((v % 1000000000 : Nat) : Int) :: pcs (v / 1000000000) := by rw [pcs, dif_neg (by omega)]
def dg9 (n : Int) : List UInt8 := (List.range 9).map fun j => UInt8.ofNat (48 + n / 10 ^ (8 - j) % 10).toNat
def textN (v : Nat) : List UInt8 := if v = 0 then [48] else ((pcs v).reverse.flatMap dg9).dropWhile (· == 48)
theorem pcs_range (v : Nat) : ∀ z ∈ pcs v, 0 ≤ z ∧ z < 1000000000 := by
 induction v using Nat.strongRecOn with
 | _ v ih =>
  by_cases h : v = 0
  ·subst h; rw [pcs_zero]; intro z hz; cases hz
  ·rw [pcs_pos (by omega)]
   intro z hz
   rcases List.mem_cons.1 hz with rfl | hz
   ·omega
   ·exact ih _ (Nat.div_lt_self (by omega) (by decide)) z hz
theorem pcs_len (m : Nat) : ∀ v, v < 65536 ^ m → (pcs v).length ≤ m := by
 induction m with
 | zero => intro v hv; rw [show v = 0 by simp at hv; omega, pcs_zero]; simp
 | succ m ih =>
  intro v hv
  by_cases h : v = 0
  ·subst h; rw [pcs_zero]; simp
  ·rw [pcs_pos (by omega)]
   have h1 : v / 1000000000 < 65536 ^ m := by
    rw [Nat.div_lt_iff_lt_mul (by decide)]
    rw [Nat.pow_succ] at hv
    refine Nat.lt_of_lt_of_le hv (Nat.mul_le_mul_left _ (by decide))
   have := ih _ h1
   simp only [List.length_cons]
   omega
def wordsN (v : Nat) : List Int := if _h : v = 0 then [] else ((v % 4294967296 : Nat) : Int) :: wordsN (v / 4294967296)
termination_by v
decreasing_by exact Nat.div_lt_self (by omega) (by decide)
theorem wordsN_zero : wordsN 0 = [] := by rw [wordsN]; simp
theorem wordsN_pos {v : Nat} (h : 0 < v) : wordsN v = ((v % 4294967296 : Nat) : Int) :: wordsN (v / 4294967296) := by rw [wordsN, dif_neg (by omega)]
theorem wordsN_ok (v : Nat) : okW (wordsN v) := by
 induction v using Nat.strongRecOn with
 | _ v ih =>
  by_cases h : v = 0
  ·subst h; rw [wordsN_zero]; exact okW_nil
  ·rw [wordsN_pos (by omega)]
   exact okW_cons.2 ⟨by omega, ih _ (Nat.div_lt_self (by omega) (by decide))⟩
theorem wordsN_val (v : Nat) : valN (wordsN v) = v := by
 induction v using Nat.strongRecOn with
 | _ v ih =>
  by_cases h : v = 0
  ·subst h; rw [wordsN_zero]; rfl
  ·rw [wordsN_pos (by omega)]
   simp only [valN, Int.toNat_natCast]
   rw [ih _ (Nat.div_lt_self (by omega) (by decide))]
   omega
theorem wordsN_normed (v : Nat) : normed (wordsN v) := by
 induction v using Nat.strongRecOn with
 | _ v ih =>
  by_cases h : v = 0
  ·subst h; rw [wordsN_zero]; rfl
  ·rw [wordsN_pos (by omega)]
   have ih := ih _ (Nat.div_lt_self (show 0 < v by omega) (show 1 < 4294967296 by decide))
   unfold normed at ih ⊢
   rw [trimW_cons]
   by_cases h2 : trimW (wordsN (v / 4294967296)) = []
   ·rw [if_pos h2]
    have h3 := (valN_zero (wordsN_ok _)).2 h2
    rw [wordsN_val] at h3
    rw [if_neg (by omega), ← ih, h2]
   ·rw [if_neg h2, ih]
theorem trim_words {l : List Int} (h : okW l) : trimW l = wordsN (valN l) :=
 valN_inj (okW_trim h) (wordsN_ok _) (normed_trim l) (wordsN_normed _) (by rw [trimW_val, wordsN_val])
def decL : Nat → List UInt8 → Nat
 | a, [] => a
 | a, c :: cs => decL (a * 10 + (c.toNat - 48)) cs
theorem decL_append (a : Nat) (l m : List UInt8) : decL a (l ++ m) = decL (decL a l) m := by
 induction l generalizing a with
 | nil => rfl
 | cons c cs ih => exact ih _
theorem decL_acc (a : Nat) (l : List UInt8) : decL a l = a * 10 ^ l.length + decL 0 l := by
 induction l generalizing a with
 | nil => show a = a * 10 ^ 0 + 0; omega
 | cons c cs ih =>
  obtain ⟨d, hd⟩ : ∃ d, d = c.toNat - 48 := ⟨_, rfl⟩
  show decL (a * 10 + (c.toNat - 48)) cs = a * 10 ^ (cs.length + 1) + decL (0 * 10 + (c.toNat - 48)) cs
  rw [← hd, ih (a * 10 + d), ih (0 * 10 + d), Nat.pow_succ]
  generalize decL 0 cs = e
  generalize 10 ^ cs.length = p
  rw [Nat.add_mul, Nat.zero_mul, Nat.zero_add, Nat.mul_assoc, Nat.mul_comm 10 p, Nat.add_assoc]
theorem decL_lt (l : List UInt8) (h : ∀ c ∈ l, 48 ≤ c.toNat ∧ c.toNat ≤ 57) : decL 0 l < 10 ^ l.length := by
 have key : ∀ (l : List UInt8) (a : Nat), (∀ c ∈ l, 48 ≤ c.toNat ∧ c.toNat ≤ 57) → decL a l < (a + 1) * 10 ^ l.length := by
  intro l
  induction l with
  | nil => intro a _; show a < (a + 1) * 10 ^ 0; omega
  | cons c cs ih =>
   intro a hc
   have h1 := hc c List.mem_cons_self
   obtain ⟨d, hd⟩ : ∃ d, d = c.toNat - 48 := ⟨_, rfl⟩
   have h2 := ih (a * 10 + d) (fun x hx => hc x (List.mem_cons_of_mem _ hx))
   show decL (a * 10 + (c.toNat - 48)) cs < (a + 1) * 10 ^ (cs.length + 1)
   rw [← hd]
   refine Nat.lt_of_lt_of_le h2 ?_
   rw [Nat.pow_succ]
   generalize 10 ^ cs.length = p
   rw [Nat.mul_comm p 10, ← Nat.mul_assoc]
   exact Nat.mul_le_mul_right _ (by omega)
 have := key l 0 h
 simpa using this
def digs (l : List UInt8) : Bool := l.all fun c => decide (48 ≤ c.toNat) && decide (c.toNat ≤ 57)
theorem digs_mem {l : List UInt8} (h : digs l = true) : ∀ c ∈ l, 48 ≤ c.toNat ∧ c.toNat ≤ 57 := fun c hc => by
 have := List.all_eq_true.1 h c hc
 simpa using this
end Go.Num
namespace Go.Proofs.YtneepokiioefgaaGreatDoor.PNat
theorem info119 : (Tryz.prog.info? 119).map (fun i => (i.zero, i.size, i.bytes)) = some (some (.int .u32 0), 1, 4) := by kernel_rfl
theorem info5 : (Tryz.prog.info? 5).map (fun i => (i.zero, i.size, i.bytes)) = some (some (.int .u8 0), 1, 1) := by kernel_rfl
end Go.Proofs.YtneepokiioefgaaGreatDoor.PNat
namespace Go.Proofs.YtneepokiioefgaaGreatDoor.PNat
open Go.RowKit YtneepokiioefgaaGreatDoorW.PrintWords YtneepokiioefgaaGreatDoorW.PrintLast YtneepokiioefgaaGreatDoorW.PrintMore
attribute [local go_sem] max2_int min2_int max_two min_two max_three min_three max_four min_four
def errW : Option Int → Value
 | none => .nilIface
 | some c => .iface 0 (.int .i64 c)
theorem errW_none : errW none = .nilIface := rfl
theorem errW_some (c : Int) : errW (some c) = .iface 0 (.int .i64 c) := rfl
theorem bq {n : Nat} {w w1 w2 : World} (h : Below n w w1) (k : Below n w w1 → Below n w w2 := by intro HB; repeat (first | (with_reducible first | exact HB | apply below_alloc | apply pw_below_drewN | apply below_drew1) | exact HB)) : Below n w w2 := k h
theorem vq {α : Type} {d : Kd α} {e base : Nat} {w1 w2 : World} {ok : Nat → Prop} {v : Value} {xs : List α} (h : Kd.V d e w1 base ok v xs) (k : Kd.V d e w1 base ok v xs → Kd.V d e w2 base ok v xs := by intro H_; (with_reducible repeat (first | apply Kd.V_alloc | apply Kd.V_drewN | apply Kd.V_drew)); exact H_) : Kd.V d e w2 base ok v xs := k h
theorem rq {α : Type} {d : Kd α} {e base : Nat} {w1 w2 : World} {ok : Nat → Prop} {v : Value} {xs : List α} (h : Kd.R d e w1 base ok v xs) (k : Kd.R d e w1 base ok v xs → Kd.R d e w2 base ok v xs := by intro H_; (with_reducible repeat (first | apply Kd.R_alloc | apply Kd.R_drewN | apply Kd.R_drew)); exact H_) : Kd.R d e w2 base ok v xs := k h
theorem gq {p : Prop} (h : p := by (try simp only [List.map_toArray, List.map_cons, List.map_nil]); first | done | rfl | (simp only [List.length_drop, List.length_take]; rfl)) : p := h
theorem oq {p : Prop} [Decidable p] (h : decide p = true := by first | (with_reducible assumption) | assumption) : p := of_decide_eq_true h
theorem eq_ {p : Prop} (h : p := by first | rfl | (simp [errW_none, errW_some] <;> rfl) | (simp [*, errW_none, errW_some] <;> rfl)) : p := h
theorem aq {p : Prop} (h : p := by first | rfl | (simp; done) | (simp [*]; done)) : p := h
def nat_more.go (b : Int) : List Int → Int → List Int × Int
 | [], c => ([], c)
 | x :: xs, c => ((IntKind.u64.wrap (c + IntKind.u64.wrap (IntKind.u64.wrap x * IntKind.u64.wrap b))) % 4294967296 :: (nat_more.go b xs ((IntKind.u64.wrap (c + IntKind.u64.wrap (IntKind.u64.wrap x * IntKind.u64.wrap b))) / 4294967296)).1, (nat_more.go b xs ((IntKind.u64.wrap (c + IntKind.u64.wrap (IntKind.u64.wrap x * IntKind.u64.wrap b))) / 4294967296)).2)
theorem nat_more.step (b c : Int) (cur : List Int) (k : Nat) (hk : k < cur.length) :
  (cur.take k ++ (nat_more.go b (cur.drop k) c).1, (nat_more.go b (cur.drop k) c).2) =
   ((cur.set k (IntKind.u64.wrap (c + IntKind.u64.wrap (IntKind.u64.wrap (rd cur k) * IntKind.u64.wrap b)) % 4294967296)).take (k + 1) ++ (nat_more.go b ((cur.set k (IntKind.u64.wrap (c + IntKind.u64.wrap (IntKind.u64.wrap (rd cur k) * IntKind.u64.wrap b)) % 4294967296)).drop (k + 1)) (IntKind.u64.wrap (c + IntKind.u64.wrap (IntKind.u64.wrap (rd cur k) * IntKind.u64.wrap b)) / 4294967296)).1,
    (nat_more.go b ((cur.set k (IntKind.u64.wrap (c + IntKind.u64.wrap (IntKind.u64.wrap (rd cur k) * IntKind.u64.wrap b)) % 4294967296)).drop (k + 1)) (IntKind.u64.wrap (c + IntKind.u64.wrap (IntKind.u64.wrap (rd cur k) * IntKind.u64.wrap b)) / 4294967296)).2) := by
 have hr : rd cur k = cur[k] := by simp [rd, hk]
 rw [hr, List.drop_set_of_lt (by omega), List.drop_eq_getElem_cons hk, List.take_succ_eq_append_getElem (by simpa using hk)]
 rw [List.take_set_of_le (Nat.le_refl _)]
 simp [nat_more.go]
def nat_more.f (l0 : List Int) (a1 a2 : Int) : Option (List Int) :=
 if l0.length < 35184372088830 then some (if 0 < (nat_more.go a1 l0 (IntKind.u64.wrap a2)).2 then (nat_more.go a1 l0 (IntKind.u64.wrap a2)).1 ++ [(nat_more.go a1 l0 (IntKind.u64.wrap a2)).2 % 4294967296] else (nat_more.go a1 l0 (IntKind.u64.wrap a2)).1) else none
set_option maxRecDepth 100000 in
theorem nat_more.calls (P0_ : Nat → Prop) (u9000_ : Value) (l0 : List Int) (a1 a2 : Int) (r : List Int) (w0 w : World) (hB : Below w0.heap.size w0 w) (ho0 : Kd.R (Kd.int .u32) 119 w w0.heap.size P0_ u9000_ l0) (h : nat_more.f l0 a1 a2 = some r) :
  Calls Tryz.prog 135 #[u9000_, .int .u32 a1, .int .u32 a2] w fun e w' => ∃ v0_ : Value, e = .returned (v0_) ∧ Kd.R (Kd.int .u32) 119 w' w0.heap.size (fun k_ => (P0_ k_ ∨ w.heap.size ≤ k_)) v0_ r ∧ Below w0.heap.size w0 w' ∧ Kept w w' (fun k_ => P0_ k_) := by
 unfold nat_more.f at h
 by_cases hl : l0.length < 35184372088830
 ·rw [if_pos hl] at h
  have H := md_ (Option.some.inj h)
  have HL := md_ hl
  clear h hl
  have HO0 := md_ (show Kd.R (Kd.int .u32) 119 w w0.heap.size (fun k_ => (P0_ k_ ∨ w.heap.size ≤ k_)) u9000_ l0 from Kd.R_mono ho0 (fun k_ hk => (.inl hk)))
  obtain ⟨A0, c0, e0⟩ := Kd.R_slice ho0
  subst e0
  clear ho0
  have HK := md_ (Kept.refl w (fun k_ => P0_ k_))
  have HW0 := md_ hB.size
  have HB := md_ hB
  clear hB
  go_enter Tryz.func135, Tryz.ntmps135
  go_wp2
  go_loopg [7, 14] l0.length (fun kq v7 v14 w' => ∃ (k : Nat) (c : Int) (cur : List Int), v7 = .int .u64 c ∧ v14 = .int .i64 k ∧ Aside0 (k + kq = l0.length) ∧ Aside0 (cur.length = l0.length) ∧ Aside0 (nat_more.go a1 l0 (IntKind.u64.wrap a2) = (cur.take k ++ (nat_more.go a1 (cur.drop k) c).1, (nat_more.go a1 (cur.drop k) c).2)) ∧ Aside0 (Kd.R (Kd.int .u32) 119 w' w0.heap.size (fun k_ => (P0_ k_ ∨ w.heap.size ≤ k_)) (.slice A0 l0.length c0) cur) ∧ Aside0 (Kept w w' (fun k_ => P0_ k_)) ∧ Aside0 (Below w0.heap.size w0 w'))
  case atStart => exact ⟨0, IntKind.u64.wrap a2, l0, rfl, rfl, ⟨by omega⟩, ⟨rfl⟩, ⟨by simp⟩, HO0, HK, HB⟩
  case round =>
   clear HO0 HK HB
   obtain ⟨k, c, cur, rfl, rfl, HKQ, HCL, HG, HO, HK, HB⟩ := hrel
   by_cases hlt : k < l0.length
   ·obtain ⟨m, rfl⟩ : ∃ m, gk = m + 1 := ⟨gk - 1, by have := HKQ.out; omega⟩
    obtain ⟨g, cap, eg, gb, gl, cl, HGB⟩ := Kd.R_form HO.out (by have := HCL.out; omega)
    rw [HCL.out] at eg
    injection eg with e1 e2 e3
    subst e1; subst e3
    clear e2
    have GB := md_ gb
    have HMg := md_ (show (P0_ g ∨ w.heap.size ≤ g) from (HO.out.1 _ rfl))
    clear gb gl HGB
    have hlt0 : decide ((k : Int) < (l0.length : Int)) = true := decide_eq_true (by omega)
    have hlt1 : decide (k < l0.length) = true := decide_eq_true hlt
    obtain ⟨hx, hf⟩ := Kd.R_celln 0 HO.out (k : Int) (by omega) (by omega)
    rw [Int.toNat_natCast] at hx hf
    obtain ⟨x, ex⟩ : ∃ x, x = rdOf 0 cur (k : Int) := ⟨_, rfl⟩
    rw [← ex] at hx
    have EX := md_ (show rd cur k = x from ex.symm)
    clear ex
    have HS := md_ (nat_more.step a1 c cur k (by have := HCL.out; omega))
    rw [EX.out] at HS
    obtain ⟨t, et⟩ : ∃ t, IntKind.u64.wrap (c + IntKind.u64.wrap (IntKind.u64.wrap x * IntKind.u64.wrap a1)) = t := ⟨_, rfl⟩
    rw [et] at HS
    have ET := md_ et
    clear et
    have HP := md_ (Kd.R_putg HO.out (k : Int) (t % 4294967296))
    rw [Int.toNat_natCast] at HP
    go_wp2
    all_goals
     go_roundg m
     case measure => have := HKQ.out; omega
     case rel => exact ⟨k + 1, t / 4294967296, cur.set k (t % 4294967296), by rw [ET.out], by rw [show wrap64 ((k : Int) + 1) = ((k + 1 : Nat) : Int) from by unfold wrap64; have := HL.out; omega], ⟨by have := HKQ.out; omega⟩, ⟨by rw [List.length_set]; exact HCL.out⟩, ⟨by rw [HG.out, HS.out]⟩, ⟨by rw [ET.out]; exact HP.out.1⟩, ⟨by rw [ET.out]; exact Kept.of_grown HP.out.2 HK.out (fun k_ e_ => by injection e_ with e_; subst e_; exact HMg.out)⟩, ⟨below_set HB.out GB.out⟩⟩
   ·obtain rfl : gk = 0 := by have := HKQ.out; omega
    have hlt0 : decide ((k : Int) < (l0.length : Int)) = false := decide_eq_false (by omega)
    have hlt1 : decide (k < l0.length) = false := decide_eq_false hlt
    have HF : Aside0 (nat_more.go a1 l0 (IntKind.u64.wrap a2) = (cur, c)) := ⟨by rw [HG.out, List.take_of_length_le (by have := HCL.out; omega), List.drop_of_length_le (by have := HCL.out; omega)]; simp [nat_more.go]⟩
    have HR : Aside0 ((if 0 < c then cur ++ [c % 4294967296] else cur) = r) := ⟨by have h_ := H.out; rw [HF.out] at h_; exact h_⟩
    clear HG H HF
    by_cases hc : 0 < c
    ·have hc0 : decide (0 < c) = true := decide_eq_true hc
     have HR2 : Aside0 (r = cur ++ [c % 4294967296]) := ⟨by rw [← HR.out, if_pos hc]⟩
     clear HR
     go_wp2_with (first | ((with_reducible refine gate_builtin (b := .append) (xs := #[.tmp 36, .tmp 39]) rfl ?_); at_builtin; refine Kd.R_append (Kd.int .u32) (w0 := w0) w0.heap.size rfl (.tmp 36) (.tmp 39) 96 119 (.int .u32 0) 4 rfl Tryz.underlying96 info119 rfl (by decide) (by omega) (.slice A0 l0.length c0) cur (c % 4294967296) [.int .u32 (c % 4294967296)] (fun k_ => (P0_ k_ ∨ w.heap.size ≤ k_)) (fun _ => False) rfl rfl ?aP (fun _ hk => hk.elim) ?aF HO.out HB.out ?aS ?aL ?_; (case aP => exact rfl); (case aF => exact fun _ h_ => .inr (Nat.le_trans HK.out.1 h_)); (case aS => exact HB.out.size); (case aL => have h1_ := HL.out; have h2_ := HCL.out; omega); intro v1 w1 ho hb hg hat; have n0_ := md_ ho; have n1_ := md_ hb; have n2_ := md_ (Kept.of_grown (S := (fun k_ => P0_ k_)) hg HK.out (fun k_ e_ => (HO.out.1 k_ e_))); clear ho hb hg hat))
     go_ret
     exact ⟨_, rfl, by rw [HR2.out]; exact n0_.out, n1_.out, n2_.out⟩
    ·have hc0 : decide (0 < c) = false := decide_eq_false hc
     have HR2 : Aside0 (r = cur) := ⟨by rw [← HR.out, if_neg hc]⟩
     clear HR
     go_wp2
     go_ret
     exact ⟨_, rfl, by rw [HR2.out]; exact HO.out, HB.out, HK.out⟩
 ·rw [if_neg hl] at h
  exact absurd h (by simp)
def nat_trim.l0 : Nat → List Int → Option (List Int)
 | 0, _ => none
 | k + 1, x0 => if (x0.length : Int) > 0 then (if 0 ≤ (wrap64 ((x0.length : Int) - 1)) then (if (wrap64 ((x0.length : Int) - 1)) < (x0.length : Int) then (if (rd x0 (wrap64 ((x0.length : Int) - 1))) = 0 then (if (wrap64 ((x0.length : Int) - 1)) ≤ (x0.length : Int) then (nat_trim.l0 k (x0.take ((wrap64 ((x0.length : Int) - 1)) : Int).toNat)) else (none)) else (some x0)) else (none)) else (none)) else (some x0)
def nat_trim.f (k : Nat) (l0 : List Int) : Option (List Int) := nat_trim.l0 k l0
theorem nat_trim.mono_l : ∀ k, (∀ y0, LeO (nat_trim.l0 k y0) (nat_trim.l0 (k + 1) y0))
 | 0 => fun _ r h => by simp [nat_trim.l0] at h
 | k + 1 => by
  have ih0 := nat_trim.mono_l k
  ·intro y0
   unfold nat_trim.l0
   repeat' first
   | (with_reducible exact ih0 _)
   | (with_reducible exact LeO.refl _)
   | (with_reducible exact LeO.none _)
   | (with_reducible refine LeO.ite ?_ ?_)
   | (with_reducible refine LeO.bind ?_ (fun _ => ?_))
   | exact ih0 _
   | exact LeO.none _
   | refine LeO.ite ?_ ?_
   | refine LeO.bind ?_ (fun _ => ?_)
theorem nat_trim.mono : ∀ a0 k, LeO (nat_trim.f k a0) (nat_trim.f (k + 1) a0) := by
 intro a0 k
 have ih0 := nat_trim.mono_l k
 unfold nat_trim.f
 repeat' first
   | (with_reducible exact ih0 _)
   | (with_reducible exact LeO.refl _)
   | (with_reducible exact LeO.none _)
   | (with_reducible refine LeO.ite ?_ ?_)
   | (with_reducible refine LeO.bind ?_ (fun _ => ?_))
   | exact ih0 _
   | exact LeO.none _
   | refine LeO.ite ?_ ?_
   | refine LeO.bind ?_ (fun _ => ?_)
set_option maxRecDepth 100000 in
theorem nat_trim.calls (k : Nat) (P0_ : Nat → Prop) (A0 : Option Addr) (c0 : Nat) (l0 : List Int) (r : List Int) (w : World) (hs0 : Kd.V (Kd.int .u32) 119 w w.heap.size (fun k_ => P0_ k_) (.slice A0 l0.length c0) l0) (h : nat_trim.f k l0 = some r) :
  Calls Tryz.prog 86 #[.slice A0 l0.length c0] w fun e w' => ∃ v0_ : Value, e = .returned (v0_) ∧ Kd.V (Kd.int .u32) 119 w' w.heap.size (fun k_ => (P0_ k_ ∨ w.heap.size ≤ k_)) v0_ r ∧ Below w.heap.size w w' := by
 have HO0 := md_ (show Kd.V (Kd.int .u32) 119 w w.heap.size (fun k_ => (P0_ k_ ∨ w.heap.size ≤ k_)) (.slice A0 l0.length c0) l0 from Kd.V_mono hs0 (fun k_ hk => .inl hk))
 have HB := md_ (Below.refl w.heap.size w)
 have H : (nat_trim.l0 k l0) = some r := h
 clear h
 have H' := md_ H
 clear H
 go_enter Tryz.func86, Tryz.ntmps86
 go_wp2
 go_loopg [0] k (fun kq v0 w' => ∃ (x0_1 : List Int), Aside0 (nat_trim.l0 kq x0_1 = some r) ∧ Aside0 (kq ≤ k) ∧ Aside0 (Kd.V (Kd.int .u32) 119 w' w.heap.size (fun k_ => (P0_ k_ ∨ w.heap.size ≤ k_)) v0 x0_1) ∧ Aside0 (Below w.heap.size w w'))
 case atStart => exact ⟨(l0), H', ⟨Nat.le_refl _⟩, ⟨vq HO0.out⟩, ⟨bq HB.out⟩⟩
 case round =>
  clear H'
  obtain ⟨x0_1, HA, HK1, HO_0, HB⟩ := hrel
  cases gk with
  | zero => exact absurd HA.out (by simp [nat_trim.l0])
  | succ k1 =>
   have H := HA.out
   clear HA
   simp only [nat_trim.l0] at H
   by_cases c2 : (x0_1.length : Int) > 0
   ·rw [if_pos c2] at H
    have c2b0 : decide (0 < (x0_1.length : Int)) = true := decide_eq_true c2
    have c2b1 : decide (0 < x0_1.length) = true := decide_eq_true (by omega)
    clear c2
    obtain ⟨ji3, hji3⟩ : ∃ j_ : Int, (wrap64 ((x0_1.length : Int) - 1)) = j_ := ⟨_, rfl⟩
    first | rw [hji3] at H | simp only [hji3] at H
    have hji3w : (IntKind.i64.wrap ((x0_1.length : Int) - 1)) = ji3 := (i64_w _).trans hji3
    obtain ⟨c4b0, H⟩ := od_ H
    obtain ⟨c5b0, H⟩ := od_ H
    by_cases c6 : (rd x0_1 (ji3)) = 0
    ·rw [if_pos c6] at H
     have c6b0 : ((rd x0_1 (ji3)) == 0) = true := beq_iff_eq.mpr c6
     have c6b1 : ((rd x0_1 (ji3)) != 0) = false := bne_eq_false_iff_eq.mpr c6
     clear c6
     have c7b0 := eq_true (oq : 0 ≤ (ji3))
     obtain ⟨c8, H⟩ := oi_ H
     have c8b0 := eq_true c8
     have c8b1 : decide ((ji3) ≤ (x0_1.length : Int)) = true := decide_eq_true c8
     clear c8
     obtain ⟨y102, hy102⟩ : ∃ y_ : List Int, y_ = (x0_1.take ((ji3) : Int).toNat) := ⟨_, rfl⟩
     replace H : (nat_trim.l0 k1 y102) = some r := by first | (rw [hy102]; with_reducible exact H) | (have H2_ := (Option.bind_some _ _).symm.trans H; rw [hy102]; with_reducible exact H2_) | (have H2_ := (Option.bind_some _ _).symm.trans H; with_reducible exact H2_) | with_reducible exact H | (rw [hy102]; exact H) | exact H
     have Ny102 := md_ hy102
     clear hy102
     have H' := md_ H
     clear H
     obtain ⟨Ao9, co9, eo9⟩ := Kd.V_slice HO_0.out
     subst eo9
     have p101 : 0 ≤ ((ji3) : Int) := oq
     have q101 : (ji3) < (x0_1.length : Int) := oq
     obtain ⟨ad101, e101, hx101_0⟩ := Kd.at_int (Kd.V_reads' HO_0.out).2.2 (ji3) p101 q101
     cases e101
     replace p101 := eq_true p101
     replace q101 := eq_true q101
     have q10 : ((ji3) : Int) ≤ ((x0_1.length : Int) : Int) := oq
     obtain ⟨i010, hi010, _, hsz10, _⟩ := info_parts info119
     have hroom10 : x0_1.length ≤ co9 := (Kd.V_reads' HO_0.out).2.1
     have hC10 : Kd.F (Kd.int .u32) _ _ (some ad101) x0_1.length x0_1 := (Kd.V_at (base := w.heap.size) HO_0.out).2.2
     have hcut10 := cut_to (P := Tryz.prog) 96 119 .i64 Tryz.underlying96 hi010 (some ad101) x0_1.length co9 (ji3) oq q10 hroom10
     have hr10 := Kd.F_take (m := ((ji3) : Int).toNat) hC10 (by omega)
     have hy10 : y102.length = ((ji3) : Int).toNat := (by rw [Ny102.out, List.length_take]; omega)
     rw [← Ny102.out] at hr10
     rw [← hy10] at hcut10
     have HO106 := md_ (show Kd.V (Kd.int .u32) 119 _ w.heap.size _ (.slice (some ad101) y102.length co9) y102 from Kd.V_mk (by omega) hr10)
     have HC106 := md_ (show y102.length ≤ co9 from by omega)
     clear hr10 hC10 hroom10 hi010 hsz10
     have KY10 := md_ hy10
     clear hy10
     replace q10 := eq_true q10
     go_wp2
     go_roundg k1
     case measure => have := HK1.out; omega
     case rel => exact ⟨(y102), H', ⟨by have := HK1.out; omega⟩, ⟨vq HO106.out⟩, ⟨bq HB.out⟩⟩
    ·rw [if_neg c6] at H
     have c6b0 : ((rd x0_1 (ji3)) == 0) = false := beq_eq_false_iff_ne.mpr c6
     have c6b1 : ((rd x0_1 (ji3)) != 0) = true := bne_iff_ne.mpr c6
     obtain rfl := Option.some.inj H
     obtain ⟨Ao11, co11, eo11⟩ := Kd.V_slice HO_0.out
     subst eo11
     have p101 : 0 ≤ ((ji3) : Int) := oq
     have q101 : (ji3) < (x0_1.length : Int) := oq
     obtain ⟨ad101, e101, hx101_0⟩ := Kd.at_int (Kd.V_reads' HO_0.out).2.2 (ji3) p101 q101
     cases e101
     replace p101 := eq_true p101
     replace q101 := eq_true q101
     go_wp2
     go_ret
     exact ⟨_, by first | rfl | (simp [errW_none, errW_some] <;> rfl) | (simp only [← hji3]; first | rfl | (simp [errW_none, errW_some] <;> rfl)) | (simp [*, errW_none, errW_some] <;> rfl), vq HO_0.out, bq HB.out⟩
   ·rw [if_neg c2] at H
    have c2b0 : decide (0 < (x0_1.length : Int)) = false := decide_eq_false c2
    have c2b1 : decide (0 < x0_1.length) = false := decide_eq_false (by omega)
    clear c2
    obtain rfl := Option.some.inj H
    obtain ⟨Ao12, co12, eo12⟩ := Kd.V_slice HO_0.out
    subst eo12
    go_wp2
    go_ret
    exact ⟨_, eq_, vq HO_0.out, bq HB.out⟩
set_option maxRecDepth 100000 in
theorem trim_told_at (A0 : Option Addr) (c0 : Nat) (l0 : List Int) (w : World) (hr0 : Kd.C (Kd.int .u32) w A0 l0.length l0) (hc0 : l0.length ≤ c0) :
  Calls Tryz.prog 86 #[.slice A0 l0.length c0] w fun e w' => e = .returned (.slice A0 (Num.trimW l0).length c0) ∧ w = w' := by
 have HR := md_ hr0
 have HC := md_ hc0
 clear hr0 hc0
 obtain ⟨i0, hi0, _, hsz, _⟩ := info_parts info119
 go_enter Tryz.func86, Tryz.ntmps86
 go_wp2
 go_loopg [0] l0.length (fun kq v0 w' => ∃ m : Nat, v0 = .slice A0 m c0 ∧ Aside0 (m ≤ l0.length) ∧ Aside0 (m = kq) ∧ Aside0 (Num.trimW (l0.take m) = Num.trimW l0) ∧ w = w')
 case atStart => exact ⟨l0.length, rfl, ⟨Nat.le_refl _⟩, ⟨rfl⟩, ⟨by rw [List.take_length]⟩, rfl⟩
 case round =>
  obtain ⟨m, rfl, HM, HQ, HT, rfl⟩ := hrel
  by_cases h0 : 0 < m
  ·obtain ⟨j, rfl⟩ : ∃ j, m = j + 1 := ⟨m - 1, by omega⟩
   obtain ⟨kq, rfl⟩ : ∃ kq, gk = kq + 1 := ⟨j, HQ.out.symm⟩
   have h1 : decide (0 < ((j + 1 : Nat) : Int)) = true := decide_eq_true (by omega)
   have h2 : decide (0 < j + 1) = true := decide_eq_true (by omega)
   have hjb : (j : Int) + 1 ≤ 9223372036854775807 := by have := HM.out; have := HR.out.2.1; omega
   obtain ⟨ad, e1, hx⟩ := Kd.at_int HR.out (j : Int) (by omega) (by have := HM.out; omega)
   subst e1
   rw [Int.toNat_natCast] at hx
   have hj : (j : Int) < ((j + 1 : Nat) : Int) := by omega
   by_cases hz : rd l0 (j : Int) = 0
   ·have hz1 : (rd l0 (j : Int) == 0) = true := beq_iff_eq.mpr hz
    have hcut := cut_to (P := Tryz.prog) 96 119 .i64 Tryz.underlying96 hi0 (some ad) (j + 1) c0 (j : Int) (by omega) (by omega) (by have := HM.out; have := HC.out; omega)
    rw [Int.toNat_natCast] at hcut
    go_wp2
    go_roundg kq
    case measure => omega
    case rel =>
     exact ⟨j, rfl, ⟨by have := HM.out; omega⟩, ⟨by have := HQ.out; omega⟩, ⟨by
      rw [← HT.out, List.take_succ_eq_append_getElem (by have := HM.out; omega)]
      have e2 : l0[j]'(by have := HM.out; omega) = 0 := by
       have h3 := hz
       simp only [rd, Int.toNat_natCast] at h3
       rw [List.getD_eq_getElem?_getD, List.getElem?_eq_getElem (by have := HM.out; omega)] at h3
       exact h3
      rw [e2, Num.trimW_snoc_zero]⟩, rfl⟩
   ·have hz1 : (rd l0 (j : Int) == 0) = false := beq_eq_false_iff_ne.mpr hz
    go_wp2
    go_ret
    refine ⟨?_, rfl⟩
    have e2 : l0[j]'(by have := HM.out; omega) ≠ 0 := by
     intro h4
     apply hz
     simp only [rd, Int.toNat_natCast]
     rw [List.getD_eq_getElem?_getD, List.getElem?_eq_getElem (by have := HM.out; omega)]
     exact h4
    have e3 : (Num.trimW l0).length = j + 1 := by
     rw [← HT.out, List.take_succ_eq_append_getElem (by have := HM.out; omega), Num.trimW_snoc_ne _ e2]
     simp
     have := HM.out; omega
    rw [e3]; rfl
  ·obtain rfl : m = 0 := by omega
   go_wp2
   go_ret
   refine ⟨?_, rfl⟩
   have e3 : (Num.trimW l0).length = 0 := by rw [← HT.out]; simp [Num.trimW]
   rw [e3]; rfl
theorem trim_told_at' (A0 : Option Addr) (c0 n : Nat) (l0 : List Int) (w : World) (hn : l0.length = n) (hr0 : Kd.C (Kd.int .u32) w A0 l0.length l0) (hc0 : l0.length ≤ c0) :
  Calls Tryz.prog 86 #[.slice A0 n c0] w fun e w' => e = .returned (.slice A0 (Num.trimW l0).length c0) ∧ w = w' := by
 subst hn
 exact trim_told_at A0 c0 l0 w hr0 hc0
theorem trim_told_pure (k : Nat) : ∀ l : List Int, l.length < k → l.length ≤ 9223372036854775807 → nat_trim.l0 k l = some (Num.trimW l) := by
 induction k with
 | zero => intro l h; omega
 | succ k ih =>
  intro l h hl
  simp only [nat_trim.l0]
  rcases List.eq_nil_or_concat l with rfl | ⟨m, x, rfl⟩
  ·simp [Num.trimW]
  ·rw [List.concat_eq_append] at h hl ⊢
   have e1 : wrap64 (((m ++ [x]).length : Int) - 1) = (m.length : Int) := by
    simp only [List.length_append, List.length_cons, List.length_nil] at hl ⊢
    unfold wrap64; omega
   have e2 : rd (m ++ [x]) (m.length : Int) = x := by simp [rd]
   rw [e1, e2, if_pos (by simp only [List.length_append, List.length_cons, List.length_nil]; omega), if_pos (by omega), if_pos (by simp only [List.length_append, List.length_cons, List.length_nil]; omega)]
   by_cases hx : x = 0
   ·rw [if_pos hx, if_pos (by simp only [List.length_append, List.length_cons, List.length_nil]; omega)]
    have e3 : (m ++ [x]).take ((m.length : Int)).toNat = m := by simp
    rw [e3, ih m (by simp at h; omega) (by simp at hl; omega), hx, Num.trimW_snoc_zero]
   ·rw [if_neg hx, Num.trimW_snoc_ne _ hx]
theorem trim_told_some {k : Nat} {l t : List Int} (hl : l.length ≤ 9223372036854775807) (h : nat_trim.f k l = some t) : t = Num.trimW l := by
 have up : ∀ d, nat_trim.f (k + d) l = some t := by
  intro d
  induction d with
  | zero => exact h
  | succ d ih => exact nat_trim.mono l (k + d) t ih
 have h1 := up (l.length + 1)
 have h2 : nat_trim.f (k + (l.length + 1)) l = some (Num.trimW l) := by
  unfold nat_trim.f
  exact trim_told_pure _ l (by omega) hl
 rw [h1] at h2
 exact Option.some.inj h2
theorem nat_trim_told (k : Nat) (A0 : Option Addr) (c0 : Nat) {n : Nat} (l0 t : List Int) (w : World) (hr0 : Kd.C (Kd.int .u32) w A0 l0.length l0) (hc0 : l0.length ≤ c0) (h : nat_trim.f k l0 = some t) (hn : l0.length = n := by rfl) :
  Calls Tryz.prog 86 #[.slice A0 n c0] w fun e w' => e = .returned (.slice A0 t.length c0) ∧ w = w' := by
 rw [trim_told_some hr0.2.1 h]
 exact trim_told_at' A0 c0 n l0 w hn hr0 hc0
theorem nat_trim_row {k : Nat} {l t : List Int} {w : World} {base n c : Nat} {ok : Nat → Prop} {A A' : Option Addr} (h : nat_trim.f k l = some t) (hr0 : Kd.C (Kd.int .u32) w A' l.length l) (hR : Kd.R (Kd.int .u32) 119 w base ok (.slice A n c) l) : Kd.R (Kd.int .u32) 119 w base (fun _ => True) (.slice A t.length c) t := by
 have h1 := Kd.R_take (m := t.length) hR (by rw [trim_told_some hr0.2.1 h]; exact Num.trimW_length_le l)
 have h2 : l.take t.length = t := by rw [trim_told_some hr0.2.1 h]; exact (Num.trimW_take l).symm
 rw [h2] at h1
 exact Kd.R_mono h1 (fun _ _ => trivial)
def nat_large.f (k : Nat) (l0 : List Int) : Option (Bool) := (nat_trim.f k l0).bind fun t107 => (some (decide ((t107.length : Int) > 2000)))
set_option maxRecDepth 100000 in
theorem nat_large.calls (k : Nat) (A0 : Option Addr) (c0 : Nat) (l0 : List Int) (r : Bool) (w : World) (hr0 : Kd.C (Kd.int .u32) w A0 l0.length l0) (hc0 : l0.length ≤ c0) (h : nat_large.f k l0 = some r) :
  Calls Tryz.prog 117 #[.slice A0 l0.length c0] w fun e w' => e = .returned (.bool r) ∧ Below w.heap.size w w' := by
 have HR0 := md_ hr0
 have HC0 := md_ hc0
 clear hr0 hc0
 have HB := md_ (Below.refl w.heap.size w)
 have H : ((nat_trim.f k l0).bind fun t107 => (some (decide ((t107.length : Int) > 2000)))) = some r := h
 clear h
 replace H := Option.bind_eq_some_iff.mp H
 obtain ⟨t107, A20, H⟩ := H
 have A2 := md_ A20
 clear A20
 obtain rfl := Option.some.inj H
 go_enter Tryz.func117, Tryz.ntmps117
 go_wp2_with (first | ((with_reducible refine gate_callee (f := 86) rfl ?_); refine goesL_ (some 4) rfl rfl Tryz.func86 (by kernel_rfl) rfl #[.slice A0 l0.length c0] rfl gq ?_; (with_reducible refine (nat_trim.calls k (fun k_ => k_ < w.heap.size) _ _ l0 t107 _ ?side1 A2.out).mono ?_); (case side1 => exact Kd.V_mk HC0.out (Kd.F_below (Kd.C_F (Kd.heap_int .u32) HR0.out) (bq HB.out))); rintro e w3 ⟨v108, rfl, ho0, hb⟩; refine ⟨_, rfl, ?_⟩; have HO109 := md_ (Kd.V_lower (Kd.V_mono (ok' := fun k_ => True) ho0 (fun k_ hk_ => trivial)) (below_size (bq HB.out))); replace HB := bb_ HB hb; (try clear hb); (try clear ho0); obtain ⟨Ao4, co4, eo4⟩ := Kd.V_slice HO109.out; subst eo4))
 go_ret
 exact ⟨eq_, bq HB.out⟩
def nat_fits.f (k : Nat) (l0 : List Int) : Option (List Int × Int) := (nat_large.f k l0).bind fun t110 => (if t110 = true then (some (([] : List Int), 2)) else ((nat_trim.f k l0).bind fun t111 => (some (t111, 0))))
set_option maxRecDepth 100000 in
theorem nat_fits.calls (k : Nat) (P0_ : Nat → Prop) (A0 : Option Addr) (c0 : Nat) (l0 : List Int) (r1 : List Int) (r2 : Int) (w : World) (hs0 : Kd.V (Kd.int .u32) 119 w w.heap.size (fun k_ => P0_ k_) (.slice A0 l0.length c0) l0) (h : nat_fits.f k l0 = some (r1, r2)) :
  Calls Tryz.prog 134 #[.slice A0 l0.length c0] w fun e w' => ∃ v0_ : Value, e = .returned (.tuple #[v0_, .int .i64 r2]) ∧ Kd.V (Kd.int .u32) 119 w' w.heap.size (fun k_ => (P0_ k_ ∨ w.heap.size ≤ k_)) v0_ r1 ∧ Below w.heap.size w w' := by
 have HO0 := md_ (show Kd.V (Kd.int .u32) 119 w w.heap.size (fun k_ => (P0_ k_ ∨ w.heap.size ≤ k_)) (.slice A0 l0.length c0) l0 from Kd.V_mono hs0 (fun k_ hk => .inl hk))
 have HB := md_ (Below.refl w.heap.size w)
 have H : ((nat_large.f k l0).bind fun t110 => (if t110 = true then (some (([] : List Int), 2)) else ((nat_trim.f k l0).bind fun t111 => (some (t111, 0))))) = some (r1, r2) := h
 clear h
 replace H := Option.bind_eq_some_iff.mp H
 obtain ⟨t110, A20, H⟩ := H
 have A2 := md_ A20
 clear A20
 by_cases c3 : t110 = true
 ·subst c3
  rw [if_pos rfl] at H
  simp only [Option.some.injEq, Prod.mk.injEq] at H
  obtain ⟨rfl, rfl⟩ := H
  go_enter Tryz.func134, Tryz.ntmps134
  go_wp2_with (first | ((with_reducible refine gate_callee (f := 117) rfl ?_); refine goesL_ (some 5) rfl rfl Tryz.func117 (by kernel_rfl) rfl #[.slice A0 l0.length c0] rfl gq ?_; (with_reducible refine (nat_large.calls k _ _ l0 true _ ?side1 ?side2 A2.out).mono ?_); (case side1 => repeat (first | exact (Kd.V_reads' HO0.out).2.2 | (with_reducible refine Kd.C_alloc ?_ _) | (with_reducible refine Kd.C_drewN ?_ _) | (with_reducible refine Kd.C_drew ?_))); (case side2 => exact (Kd.V_reads' HO0.out).2.1); rintro e w4 ⟨rfl, hb⟩; refine ⟨_, rfl, ?_⟩; replace HO0 := vb_ HO0 hb; replace HB := bb_ HB hb; (try clear hb); (try clear hi)))
  go_ret2
  exact ⟨_, eq_, Kd.V_mono (Kd.R_V (by first | exact Kd.R_nil _ _ _ _ _ | exact Kd.R_nil _ 119 _ 0 (fun _ => False) | exact Kd.R_nil _ 119 _ 0 _ | exact Kd.R_nil _ _ _ _ _ | exact Kd.N_nil _ _ _ _ _ | exact Kd.V_nil _ _ _ _ _ | exact Kd.Q_nil _ _ _ _ _ | exact Kd.S_nil _ _ _ _ _)) (fun k_ hk => by first | exact hk.elim | exact ⟨(.inr (hk.1)), hk.2⟩ | exact (.inr (hk))), bq HB.out⟩
 ·replace c3 := Bool.eq_false_iff.mpr c3
  subst c3
  rw [if_neg (show ¬ (false = true) by decide)] at H
  replace H := Option.bind_eq_some_iff.mp H
  obtain ⟨t111, A50, H⟩ := H
  have A5 := md_ A50
  clear A50
  simp only [Option.some.injEq, Prod.mk.injEq] at H
  obtain ⟨rfl, rfl⟩ := H
  go_enter Tryz.func134, Tryz.ntmps134
  go_wp2_with (first | ((with_reducible refine gate_callee (f := 117) rfl ?_); refine goesL_ (some 5) rfl rfl Tryz.func117 (by kernel_rfl) rfl #[.slice A0 l0.length c0] rfl gq ?_; (with_reducible refine (nat_large.calls k _ _ l0 false _ ?side1 ?side2 A2.out).mono ?_); (case side1 => repeat (first | exact (Kd.V_reads' HO0.out).2.2 | (with_reducible refine Kd.C_alloc ?_ _) | (with_reducible refine Kd.C_drewN ?_ _) | (with_reducible refine Kd.C_drew ?_))); (case side2 => exact (Kd.V_reads' HO0.out).2.1); rintro e w6 ⟨rfl, hb⟩; refine ⟨_, rfl, ?_⟩; replace HO0 := vb_ HO0 hb; replace HB := bb_ HB hb; (try clear hb); (try clear hi)) | ((with_reducible refine gate_callee (f := 86) rfl ?_); refine goesL_ (some 7) rfl rfl Tryz.func86 (by kernel_rfl) rfl #[.slice A0 l0.length c0] rfl gq ?_; (with_reducible refine (nat_trim.calls k (fun k_ => (P0_ k_ ∨ w.heap.size ≤ k_)) _ _ l0 t111 _ ?side1 A5.out).mono ?_); (case side1 => exact HO0.out); rintro e w7 ⟨v112, rfl, ho0, hb⟩; refine ⟨_, rfl, ?_⟩; have n0_ := md_ (Kd.V_below (vq HO0.out) hb); have n1_ := md_ (Kd.V_lower (Kd.V_mono (ok' := fun k_ => (P0_ k_ ∨ w.heap.size ≤ k_)) ho0 (fun k_ hk_ => Or.elim hk_ (fun hs_ => hs_) (fun hn_ => (.inr (Nat.le_trans (below_size (bq HB.out)) hn_))))) (below_size (bq HB.out))); have n2_ := md_ (below_step (bq HB.out) hb); clear HO0; clear HB; have HO0 := n0_; have HO113 := n1_; have HB := n2_; clear n0_ n1_ n2_; (try clear hb); (try clear ho0)))
  go_ret2
  exact ⟨_, eq_, vq HO113.out, bq HB.out⟩
mutual
def nat_Parse.l0 : Nat → ByteArray → Int → Int → Option (List Int × Int)
 | 0, _, _, _ => none
 | k + 1, x0, x11, x12 => if x12 < x11 then (if 0 ≤ x12 then (if x12 < (x0.size : Int) then (if (bt x0 x12) < 48 then (some (([] : List Int), 3)) else (if (bt x0 x12) > 57 then (some (([] : List Int), 3)) else (nat_Parse.l0 k x0 x11 (wrap64 (x12 + 1))))) else (none)) else (none)) else (if x0.toList = ([] : List UInt8) then (some (([] : List Int), 3)) else (if (x0.size : Int) > 5000 then (some (([] : List Int), 2)) else (nat_Parse.l1 k x0 ([] : List Int))))
def nat_Parse.l1 : Nat → ByteArray → List Int → Option (List Int × Int)
 | 0, _, _ => none
 | k + 1, x0, x5 => if (x0.size : Int) > 0 then (nat_Parse.l2 k x0 x5 (mn (x0.size : Int) 9) 1 0 (mn (x0.size : Int) 9) 0) else ((nat_fits.f k x5).bind fun bt114 => (some (bt114.1, bt114.2)))
def nat_Parse.l2 : Nat → ByteArray → List Int → Int → Int → Int → Int → Int → Option (List Int × Int)
 | 0, _, _, _, _, _, _, _ => none
 | k + 1, x0, x5, x6, x7, x8, x39, x40 => if x40 < x39 then (if 0 ≤ x40 then (if x40 < (x0.size : Int) then (nat_Parse.l2 k x0 x5 x6 ((x7 * 10) % 4294967296) ((((x8 * 10) % 4294967296) + (((bt x0 x40) - 48) % 256)) % 4294967296) x39 (wrap64 (x40 + 1))) else (none)) else (none)) else ((nat_more.f x5 x7 x8).bind fun t118 => (if 0 ≤ x6 then (if x6 ≤ (x0.size : Int) then (nat_Parse.l1 k (x0.extract (x6 : Int).toNat x0.size) t118) else (none)) else (none)))
end
def nat_Parse.f (k : Nat) (a0 : ByteArray) : Option (List Int × Int) := nat_Parse.l0 k a0 (a0.size : Int) 0
set_option maxRecDepth 100000 in
theorem nat_Parse.calls (k : Nat) (a0 : ByteArray) (r1 : List Int) (r2 : Int) (w : World) (h : nat_Parse.f k a0 = some (r1, r2)) :
  Calls Tryz.prog 116 #[.string a0] w fun e w' => ∃ v0_ : Value, e = .returned (.tuple #[v0_, .int .i64 r2]) ∧ Kd.V (Kd.int .u32) 119 w' w.heap.size (fun k_ => (w.heap.size ≤ k_)) v0_ r1 ∧ Below w.heap.size w w' := by
 have HB := md_ (Below.refl w.heap.size w)
 have H : (nat_Parse.l0 k a0 (a0.size : Int) 0) = some (r1, r2) := h
 clear h
 have H' := md_ H
 clear H
 go_enter Tryz.func116, Tryz.ntmps116
 go_wp2
 repeat (go_quiet (fail); try go_wp2)
 go_loopg [12] k (fun kq v12 w' => ∃ (x12_1 : Int), v12 = .int .i64 x12_1 ∧ Aside0 (nat_Parse.l0 kq a0 (a0.size : Int) x12_1 = some (r1, r2)) ∧ Aside0 (kq ≤ k) ∧ Aside0 (Below w.heap.size w w'))
 case atStart => exact ⟨(0), aq, H', ⟨Nat.le_refl _⟩, ⟨bq HB.out⟩⟩
 case round =>
  clear H'
  (try clear c1)
  obtain ⟨x12_1, rfl, HA, HK1, HB⟩ := hrel
  cases gk with
  | zero => exact absurd HA.out (by simp [nat_Parse.l0])
  | succ k1 =>
   have H := HA.out
   clear HA
   simp only [nat_Parse.l0] at H
   by_cases c2 : x12_1 < (a0.size : Int)
   ·rw [if_pos c2] at H
    have c2b0 := decide_eq_true c2
    clear c2
    obtain ⟨c3b0, H⟩ := od_ H
    obtain ⟨c4b0, H⟩ := od_ H
    by_cases c6 : (bt a0 x12_1) < 48
    ·rw [if_pos c6] at H
     have c6b0 := decide_eq_true c6
     clear c6
     simp only [Option.some.injEq, Prod.mk.injEq] at H
     obtain ⟨rfl, rfl⟩ := H
     have p5 : 0 ≤ (x12_1 : Int) := oq
     have q5 : x12_1 < (a0.size : Int) := oq
     have hx5 := bt_at a0 x12_1
     replace p5 := eq_true p5
     replace q5 := eq_true q5
     go_wp2
     repeat (go_quiet (fail); try go_wp2)
     go_ret2
     exact ⟨_, eq_, Kd.R_V (by first | exact Kd.R_nil _ _ _ _ _ | exact Kd.R_nil _ 119 _ 0 (fun _ => False) | exact Kd.R_nil _ 119 _ 0 _ | exact Kd.R_nil _ _ _ _ _ | exact Kd.N_nil _ _ _ _ _ | exact Kd.V_nil _ _ _ _ _ | exact Kd.Q_nil _ _ _ _ _ | exact Kd.S_nil _ _ _ _ _), bq HB.out⟩
    ·rw [if_neg c6] at H
     have c6b0 := decide_eq_false c6
     clear c6
     by_cases c8 : (bt a0 x12_1) > 57
     ·rw [if_pos c8] at H
      have c8b0 : decide (57 < (bt a0 x12_1)) = true := decide_eq_true c8
      clear c8
      simp only [Option.some.injEq, Prod.mk.injEq] at H
      obtain ⟨rfl, rfl⟩ := H
      have p5 : 0 ≤ (x12_1 : Int) := oq
      have q5 : x12_1 < (a0.size : Int) := oq
      have hx5 := bt_at a0 x12_1
      replace p5 := eq_true p5
      replace q5 := eq_true q5
      have p7 : 0 ≤ (x12_1 : Int) := oq
      have q7 : x12_1 < (a0.size : Int) := oq
      have hx7 := bt_at a0 x12_1
      replace p7 := eq_true p7
      replace q7 := eq_true q7
      go_wp2
      repeat (go_quiet (fail); try go_wp2)
      go_ret2
      exact ⟨_, eq_, Kd.R_V (by first | exact Kd.R_nil _ _ _ _ _ | exact Kd.R_nil _ 119 _ 0 (fun _ => False) | exact Kd.R_nil _ 119 _ 0 _ | exact Kd.R_nil _ _ _ _ _ | exact Kd.N_nil _ _ _ _ _ | exact Kd.V_nil _ _ _ _ _ | exact Kd.Q_nil _ _ _ _ _ | exact Kd.S_nil _ _ _ _ _), bq HB.out⟩
     ·rw [if_neg c8] at H
      have c8b0 : decide (57 < (bt a0 x12_1)) = false := decide_eq_false c8
      clear c8
      have H' := md_ H
      clear H
      have p5 : 0 ≤ (x12_1 : Int) := oq
      have q5 : x12_1 < (a0.size : Int) := oq
      have hx5 := bt_at a0 x12_1
      replace p5 := eq_true p5
      replace q5 := eq_true q5
      have p7 : 0 ≤ (x12_1 : Int) := oq
      have q7 : x12_1 < (a0.size : Int) := oq
      have hx7 := bt_at a0 x12_1
      replace p7 := eq_true p7
      replace q7 := eq_true q7
      go_wp2
      repeat (go_quiet (fail); try go_wp2)
      go_roundg k1
      case measure => have := HK1.out; omega
      case rel => exact ⟨(wrap64 (x12_1 + 1)), aq, H', ⟨by have := HK1.out; omega⟩, ⟨bq HB.out⟩⟩
   ·rw [if_neg c2] at H
    have c2b0 := decide_eq_false c2
    clear c2
    by_cases c9 : a0.toList = ([] : List UInt8)
    ·rw [if_pos c9] at H
     have c9b0 : (a0.toList == ([] : List UInt8)) = true := beq_iff_eq.mpr c9
     have c9b1 : (a0.toList != ([] : List UInt8)) = false := bne_eq_false_iff_eq.mpr c9
     clear c9
     simp only [Option.some.injEq, Prod.mk.injEq] at H
     obtain ⟨rfl, rfl⟩ := H
     go_wp2
     repeat (go_quiet (fail); try go_wp2)
     go_ret2
     exact ⟨_, eq_, Kd.R_V (by first | exact Kd.R_nil _ _ _ _ _ | exact Kd.R_nil _ 119 _ 0 (fun _ => False) | exact Kd.R_nil _ 119 _ 0 _ | exact Kd.R_nil _ _ _ _ _ | exact Kd.N_nil _ _ _ _ _ | exact Kd.V_nil _ _ _ _ _ | exact Kd.Q_nil _ _ _ _ _ | exact Kd.S_nil _ _ _ _ _), bq HB.out⟩
    ·rw [if_neg c9] at H
     have c9b0 : (a0.toList == ([] : List UInt8)) = false := beq_eq_false_iff_ne.mpr c9
     have c9b1 : (a0.toList != ([] : List UInt8)) = true := bne_iff_ne.mpr c9
     by_cases c10 : (a0.size : Int) > 5000
     ·rw [if_pos c10] at H
      have c10b0 : decide (5000 < (a0.size : Int)) = true := decide_eq_true c10
      have c10b1 : decide (5000 < a0.size) = true := decide_eq_true (by omega)
      clear c10
      simp only [Option.some.injEq, Prod.mk.injEq] at H
      obtain ⟨rfl, rfl⟩ := H
      go_wp2
      repeat (go_quiet (fail); try go_wp2)
      go_ret2
      exact ⟨_, eq_, Kd.R_V (by first | exact Kd.R_nil _ _ _ _ _ | exact Kd.R_nil _ 119 _ 0 (fun _ => False) | exact Kd.R_nil _ 119 _ 0 _ | exact Kd.R_nil _ _ _ _ _ | exact Kd.N_nil _ _ _ _ _ | exact Kd.V_nil _ _ _ _ _ | exact Kd.Q_nil _ _ _ _ _ | exact Kd.S_nil _ _ _ _ _), bq HB.out⟩
     ·rw [if_neg c10] at H
      have c10b0 : decide (5000 < (a0.size : Int)) = false := decide_eq_false c10
      have c10b1 : decide (5000 < a0.size) = false := decide_eq_false (by omega)
      clear c10
      have H' := md_ H
      clear H
      go_wp2
      repeat (go_quiet (fail); try go_wp2)
      go_loopg [0, 5] k1 (fun kq v0 v5 w' => ∃ (x0_2 : ByteArray) (x5_2 : List Int), v0 = .string x0_2 ∧ Aside0 (nat_Parse.l1 kq x0_2 x5_2 = some (r1, r2)) ∧ Aside0 (kq ≤ k1) ∧ Aside0 (Kd.R (Kd.int .u32) 119 w' w.heap.size (fun k_ => (w.heap.size ≤ k_)) v5 x5_2) ∧ Aside0 (Below w.heap.size w w'))
      case atStart => exact ⟨(a0), (([] : List Int)), aq, H', ⟨Nat.le_refl _⟩, ⟨by first | exact Kd.R_nil _ _ _ _ _ | exact Kd.R_nil _ 119 _ 0 (fun _ => False) | exact Kd.R_nil _ 119 _ 0 _ | exact Kd.R_nil _ _ _ _ _ | exact Kd.N_nil _ _ _ _ _ | exact Kd.V_nil _ _ _ _ _ | exact Kd.Q_nil _ _ _ _ _ | exact Kd.S_nil _ _ _ _ _⟩, ⟨bq HB.out⟩⟩
      case round =>
       clear H'
       (try clear c1); (try clear c2); (try clear c2b0); (try clear p2); (try clear c3); (try clear c3b0); (try clear c4); (try clear c4b0); (try clear p5); (try clear q5); (try clear hx5); (try clear c6); (try clear c6b0); (try clear p6); (try clear p7); (try clear q7); (try clear hx7); (try clear c8); (try clear c8b0); (try clear c9); (try clear c9b0); (try clear c9b1); (try clear c10); (try clear c10b0); (try clear c10b1); (try clear p5); (try clear p7); (try clear q5); (try clear q7)
       obtain ⟨x0_2, x5_2, rfl, HA, HK2, HO_5, HB⟩ := hrel
       cases gk with
       | zero => exact absurd HA.out (by simp [nat_Parse.l1])
       | succ k2 =>
        have H := HA.out
        clear HA
        simp only [nat_Parse.l1] at H
        by_cases c11 : (x0_2.size : Int) > 0
        ·rw [if_pos c11] at H
         have c11b0 : decide (0 < (x0_2.size : Int)) = true := decide_eq_true c11
         have c11b1 : decide (0 < x0_2.size) = true := decide_eq_true (by omega)
         clear c11
         obtain ⟨ji12, hji12⟩ : ∃ j_ : Int, (mn (x0_2.size : Int) 9) = j_ := ⟨_, rfl⟩
         first | rw [hji12] at H | simp only [hji12] at H
         have hji12_ : (if 9 < (x0_2.size : Int) then 9 else (x0_2.size : Int)) = ji12 := hji12
         have H' := md_ H
         clear H
         go_wp2
         repeat (go_quiet (fail); try go_wp2)
         go_loopg [7, 8, 40] k2 (fun kq v7 v8 v40 w' => ∃ (x7_3 : Int) (x8_3 : Int) (x40_3 : Int), v7 = .int .u32 x7_3 ∧ v8 = .int .u32 x8_3 ∧ v40 = .int .i64 x40_3 ∧ Aside0 (nat_Parse.l2 kq x0_2 x5_2 ji12 x7_3 x8_3 ji12 x40_3 = some (r1, r2)) ∧ Aside0 (kq ≤ k2) ∧ Aside0 (Kd.R (Kd.int .u32) 119 w' w.heap.size (fun k_ => (w.heap.size ≤ k_)) u5 x5_2) ∧ Aside0 (Below w.heap.size w w'))
         case atStart => exact ⟨(1), (0), (0), aq, aq, aq, H', ⟨Nat.le_refl _⟩, ⟨rq HO_5.out⟩, ⟨bq HB.out⟩⟩
         case round =>
          clear H'
          (try clear c1); (try clear c2); (try clear c2b0); (try clear p2); (try clear c3); (try clear c3b0); (try clear c4); (try clear c4b0); (try clear p5); (try clear q5); (try clear hx5); (try clear c6); (try clear c6b0); (try clear p6); (try clear p7); (try clear q7); (try clear hx7); (try clear c8); (try clear c8b0); (try clear c9); (try clear c9b0); (try clear c9b1); (try clear c10); (try clear c10b0); (try clear c10b1); (try clear c11); (try clear c11b0); (try clear c11b1); (try clear p2); (try clear p5); (try clear p6); (try clear p7); (try clear q5); (try clear q7)
          obtain ⟨x7_3, x8_3, x40_3, rfl, rfl, rfl, HA, HK3, HO_5, HB⟩ := hrel
          cases gk with
          | zero => exact absurd HA.out (by simp [nat_Parse.l2])
          | succ k3 =>
           have H := HA.out
           clear HA
           simp only [nat_Parse.l2] at H
           by_cases c13 : x40_3 < ji12
           ·rw [if_pos c13] at H
            have c13b0 := decide_eq_true c13
            clear c13
            obtain ⟨c14b0, H⟩ := od_ H
            obtain ⟨c15b0, H⟩ := od_ H
            have H' := md_ H
            clear H
            have p16 : 0 ≤ (x40_3 : Int) := oq
            have q16 : x40_3 < (x0_2.size : Int) := oq
            have hx16 := bt_at x0_2 x40_3
            replace p16 := eq_true p16
            replace q16 := eq_true q16
            go_wp2
            repeat (go_quiet (fail); try go_wp2)
            go_roundg k3
            case measure => have := HK1.out; have := HK2.out; have := HK3.out; omega
            case rel => exact ⟨((x7_3 * 10) % 4294967296), ((((x8_3 * 10) % 4294967296) + (((bt x0_2 x40_3) - 48) % 256)) % 4294967296), (wrap64 (x40_3 + 1)), aq, aq, aq, H', ⟨by have := HK1.out; have := HK2.out; have := HK3.out; omega⟩, ⟨rq HO_5.out⟩, ⟨bq HB.out⟩⟩
           ·rw [if_neg c13] at H
            have c13b0 := decide_eq_false c13
            clear c13
            replace H := Option.bind_eq_some_iff.mp H
            obtain ⟨t118, A170, H⟩ := H
            have A17 := md_ A170
            clear A170
            obtain ⟨c18, H⟩ := oi_ H
            have c18b0 := eq_true c18
            have c18b1 : decide (0 ≤ ji12) = true := decide_eq_true c18
            clear c18
            obtain ⟨c19, H⟩ := oi_ H
            have c19b0 := eq_true c19
            have c19b1 : decide (ji12 ≤ (x0_2.size : Int)) = true := decide_eq_true c19
            clear c19
            have H' := md_ H
            clear H
            obtain ⟨Ao20, co20, eo20⟩ := Kd.R_slice HO_5.out
            subst eo20
            go_wp2_with (first | (go_at_call 135; (with_reducible refine (nat_more.calls (fun k_ => some k_ = (.slice Ao20 x5_2.length co20 : Value).ownBlock) (.slice Ao20 x5_2.length co20) x5_2 x7_3 x8_3 t118 w _ ?side1 ?side2 A17.out).mono ?_); (case side1 => repeat (first | (with_reducible first | exact HB.out | apply below_alloc | apply pw_below_drewN | apply below_drew1) | exact HB.out)); (case side2 => exact Kd.R_tight rfl HO_5.out); rintro e w21 ⟨v119, rfl, ho0, hb, hkp⟩; have HO120 := md_ (Kd.R_mono (ok' := fun k_ => (w.heap.size ≤ k_)) ho0 (fun k_ hk_ => Or.elim hk_ (fun hs_ => (HO_5.out.1 k_ (hs_).symm)) (fun hn_ => (Nat.le_trans (below_size (bq HB.out)) hn_)))); replace HB := md_ (hb); clear HO_5; (try clear hb); (try clear hkp); (try clear ho0)))
            repeat (go_quiet (first | (go_at_call 135; (with_reducible refine (nat_more.calls (fun k_ => some k_ = (.slice Ao20 x5_2.length co20 : Value).ownBlock) (.slice Ao20 x5_2.length co20) x5_2 x7_3 x8_3 t118 w _ ?side1 ?side2 A17.out).mono ?_); (case side1 => repeat (first | (with_reducible first | exact HB.out | apply below_alloc | apply pw_below_drewN | apply below_drew1) | exact HB.out)); (case side2 => exact Kd.R_tight rfl HO_5.out); rintro e w21 ⟨v119, rfl, ho0, hb, hkp⟩; have HO120 := md_ (Kd.R_mono (ok' := fun k_ => (w.heap.size ≤ k_)) ho0 (fun k_ hk_ => Or.elim hk_ (fun hs_ => (HO_5.out.1 k_ (hs_).symm)) (fun hn_ => (Nat.le_trans (below_size (bq HB.out)) hn_)))); replace HB := md_ (hb); clear HO_5; (try clear hb); (try clear hkp); (try clear ho0))); try go_wp2_with (first | (go_at_call 135; (with_reducible refine (nat_more.calls (fun k_ => some k_ = (.slice Ao20 x5_2.length co20 : Value).ownBlock) (.slice Ao20 x5_2.length co20) x5_2 x7_3 x8_3 t118 w _ ?side1 ?side2 A17.out).mono ?_); (case side1 => repeat (first | (with_reducible first | exact HB.out | apply below_alloc | apply pw_below_drewN | apply below_drew1) | exact HB.out)); (case side2 => exact Kd.R_tight rfl HO_5.out); rintro e w21 ⟨v119, rfl, ho0, hb, hkp⟩; have HO120 := md_ (Kd.R_mono (ok' := fun k_ => (w.heap.size ≤ k_)) ho0 (fun k_ hk_ => Or.elim hk_ (fun hs_ => (HO_5.out.1 k_ (hs_).symm)) (fun hn_ => (Nat.le_trans (below_size (bq HB.out)) hn_)))); replace HB := md_ (hb); clear HO_5; (try clear hb); (try clear hkp); (try clear ho0))))
            go_roundg k3
            case measure => have := HK1.out; have := HK2.out; have := HK3.out; omega
            case rel => exact ⟨(x0_2.extract (ji12 : Int).toNat x0_2.size), (t118), (by first | rfl | (simp; done) | (simp only [← hji12] <;> (first | rfl | simp)) | (simp [*]; done)), H', ⟨by have := HK1.out; have := HK2.out; have := HK3.out; omega⟩, ⟨rq HO120.out⟩, ⟨bq HB.out⟩⟩
        ·rw [if_neg c11] at H
         have c11b0 : decide (0 < (x0_2.size : Int)) = false := decide_eq_false c11
         have c11b1 : decide (0 < x0_2.size) = false := decide_eq_false (by omega)
         clear c11
         replace H := Option.bind_eq_some_iff.mp H
         obtain ⟨⟨t114, t117⟩, A220, H⟩ := H
         dsimp only at H
         have A22 := md_ A220
         clear A220
         simp only [Option.some.injEq, Prod.mk.injEq] at H
         obtain ⟨rfl, rfl⟩ := H
         obtain ⟨Ao23, co23, eo23⟩ := Kd.R_slice HO_5.out
         subst eo23
         go_wp2_with (first | (go_at_call 134; (with_reducible refine (nat_fits.calls k2 (fun k_ => some k_ = (.slice Ao23 x5_2.length co23 : Value).ownBlock) _ _ x5_2 t114 t117 _ ?side1 A22.out).mono ?_); (case side1 => exact Kd.R_V (Kd.R_tight rfl (HO_5.out))); rintro e w24 ⟨v115, rfl, ho0, hb⟩; have n0_ := md_ (Kd.R_below (rq HO_5.out) hb); have n1_ := md_ (Kd.V_lower (Kd.V_mono (ok' := fun k_ => (w.heap.size ≤ k_)) ho0 (fun k_ hk_ => Or.elim hk_ (fun hs_ => ((HO_5.out).1 k_ hs_.symm)) (fun hn_ => (Nat.le_trans (below_size (bq HB.out)) hn_)))) (below_size (bq HB.out))); have n2_ := md_ (below_step (bq HB.out) hb); clear HO_5; clear HB; have HO_5 := n0_; have HO116 := n1_; have HB := n2_; clear n0_ n1_ n2_; (try clear hb); (try clear ho0)))
         repeat (go_quiet (first | (go_at_call 134; (with_reducible refine (nat_fits.calls k2 (fun k_ => some k_ = (.slice Ao23 x5_2.length co23 : Value).ownBlock) _ _ x5_2 t114 t117 _ ?side1 A22.out).mono ?_); (case side1 => exact Kd.R_V (Kd.R_tight rfl (HO_5.out))); rintro e w24 ⟨v115, rfl, ho0, hb⟩; have n0_ := md_ (Kd.R_below (rq HO_5.out) hb); have n1_ := md_ (Kd.V_lower (Kd.V_mono (ok' := fun k_ => (w.heap.size ≤ k_)) ho0 (fun k_ hk_ => Or.elim hk_ (fun hs_ => ((HO_5.out).1 k_ hs_.symm)) (fun hn_ => (Nat.le_trans (below_size (bq HB.out)) hn_)))) (below_size (bq HB.out))); have n2_ := md_ (below_step (bq HB.out) hb); clear HO_5; clear HB; have HO_5 := n0_; have HO116 := n1_; have HB := n2_; clear n0_ n1_ n2_; (try clear hb); (try clear ho0))); try go_wp2_with (first | (go_at_call 134; (with_reducible refine (nat_fits.calls k2 (fun k_ => some k_ = (.slice Ao23 x5_2.length co23 : Value).ownBlock) _ _ x5_2 t114 t117 _ ?side1 A22.out).mono ?_); (case side1 => exact Kd.R_V (Kd.R_tight rfl (HO_5.out))); rintro e w24 ⟨v115, rfl, ho0, hb⟩; have n0_ := md_ (Kd.R_below (rq HO_5.out) hb); have n1_ := md_ (Kd.V_lower (Kd.V_mono (ok' := fun k_ => (w.heap.size ≤ k_)) ho0 (fun k_ hk_ => Or.elim hk_ (fun hs_ => ((HO_5.out).1 k_ hs_.symm)) (fun hn_ => (Nat.le_trans (below_size (bq HB.out)) hn_)))) (below_size (bq HB.out))); have n2_ := md_ (below_step (bq HB.out) hb); clear HO_5; clear HB; have HO_5 := n0_; have HO116 := n1_; have HB := n2_; clear n0_ n1_ n2_; (try clear hb); (try clear ho0))))
         go_ret2
         exact ⟨_, eq_, vq HO116.out, bq HB.out⟩
def slices_Clone_uint32_uint32.f (l0 : List Int) : Option (List Int) := if l0.length < 35184372088832 then some l0 else none
set_option maxRecDepth 100000 in
theorem slices_Clone_uint32_uint32.calls (A0 : Option Addr) (c0 : Nat) (l0 : List Int) (r : List Int) (w : World) (hr0 : Kd.C (Kd.int .u32) w A0 l0.length l0) (hc0 : l0.length ≤ c0) (h : slices_Clone_uint32_uint32.f l0 = some r) :
  Calls Tryz.prog 110 #[.slice A0 l0.length c0] w fun e w' => ∃ v0_ : Value, e = .returned (v0_) ∧ Kd.R (Kd.int .u32) 119 w' w.heap.size (fun _ => True) v0_ r ∧ Below w.heap.size w w' := by
 unfold slices_Clone_uint32_uint32.f at h
 by_cases hl : l0.length < 35184372088832
 ·rw [if_pos hl] at h
  obtain rfl := Option.some.inj h
  have HL := md_ hl
  have HR0 := md_ hr0
  have HC0 := md_ hc0
  clear h hl hr0 hc0
  cases A0 with
  | none =>
   have hl0 : l0 = [] := by
    have h3 := HR0.out.2.2
    cases l0 with
    | nil => rfl
    | cons a l => obtain ⟨ad, e, _⟩ := h3 (by simp); exact absurd e (by simp)
   subst hl0
   have he := fun w => Lib.run_eql_slice_nil (P := Tryz.prog) w 96 119 none 0 c0 0 0 Tryz.underlying96
   go_enter Tryz.func110, Tryz.ntmps110
   go_wp2
   go_ret
   exact ⟨_, rfl, Kd.R_nil _ _ _ _ _, Below.refl _ _⟩
  | some ad =>
   have he := fun w => Lib.run_eql_slice_nil (P := Tryz.prog) w 96 119 (some ad) l0.length c0 0 0 Tryz.underlying96
   have hR0 : Aside0 (Kd.R (Kd.int .u32) 119 (w.alloc (.cells #[] 119)) w.heap.size (fun _ => True) (.slice (some ⟨w.heap.size, 0, none⟩) 0 0) []) := ⟨⟨fun _ _ => trivial, [], World.ownsRow_lit (base := w.heap.size) (e := 119) (size := 1) w #[] 0 (Nat.le_refl _) (by decide) (by simp), by exact Reps.none _ _⟩⟩
   have hB0 : Aside0 (Below w.heap.size w (w.alloc (.cells #[] 119))) := ⟨(Below.refl _ w).alloc (Nat.le_refl _) _⟩
   go_enter Tryz.func110, Tryz.ntmps110
   go_wp2_with (first | ((with_reducible refine gate_builtin (b := .append) (xs := #[.tmp 5, .tmp 6]) rfl ?_); at_builtin; refine Kd.R_append_rows (Kd.int .u32) (w0 := w) w.heap.size rfl (.tmp 5) (.tmp 6) 96 119 (.int .u32 0) 4 rfl Tryz.underlying96 info119 rfl (by decide) (by omega) (.slice (some ⟨w.heap.size, 0, none⟩) 0 0) ([] : List Int) l0 _ _ _ (fun _ => True) (fun _ => False) rfl rfl hR0.out ?aR (fun _ _ h => h) (fun _ h => h.elim) (fun _ _ => trivial) hB0.out (by simp) ?aL ?_; (case aR => exact Kd.C_below HR0.out hB0.out); (case aL => have := HL.out; simp; omega); intro v1 w1 ho hb hg hat; have n0_ := md_ ho; have n1_ := md_ hb; clear ho hb hg hat))
   go_ret
   exact ⟨_, rfl, by simpa using n0_.out, n1_.out⟩
 ·rw [if_neg hl] at h
  exact absurd h (by simp)
def nat_Norm.f (k : Nat) (l0 : List Int) : Option (List Int) := (nat_trim.f k l0).bind fun t123 => ((slices_Clone_uint32_uint32.f t123).bind fun t126 => (some t126))
set_option maxRecDepth 100000 in
theorem nat_Norm.calls (k : Nat) (A0 : Option Addr) (c0 : Nat) (l0 : List Int) (r : List Int) (w : World) (hr0 : Kd.C (Kd.int .u32) w A0 l0.length l0) (hc0 : l0.length ≤ c0) (h : nat_Norm.f k l0 = some r) :
  Calls Tryz.prog 82 #[.slice A0 l0.length c0] w fun e w' => ∃ v0_ : Value, e = .returned (v0_) ∧ Kd.R (Kd.int .u32) 119 w' w.heap.size (fun _ => True) v0_ r ∧ Below w.heap.size w w' := by
 have HR0 := md_ hr0
 have HC0 := md_ hc0
 clear hr0 hc0
 have HB := md_ (Below.refl w.heap.size w)
 have H : ((nat_trim.f k l0).bind fun t123 => ((slices_Clone_uint32_uint32.f t123).bind fun t126 => (some t126))) = some r := h
 clear h
 replace H := Option.bind_eq_some_iff.mp H
 obtain ⟨t123, A20, H⟩ := H
 have A2 := md_ A20
 clear A20
 replace H := Option.bind_eq_some_iff.mp H
 obtain ⟨t126, A30, H⟩ := H
 have A3 := md_ A30
 clear A30
 obtain rfl := Option.some.inj H
 go_enter Tryz.func82, Tryz.ntmps82
 go_wp2_with (first | ((with_reducible refine gate_callee (f := 86) rfl ?_); refine goesL_ (some 4) rfl rfl Tryz.func86 (by kernel_rfl) rfl #[.slice A0 l0.length c0] rfl gq ?_; (with_reducible refine (nat_trim.calls k (fun k_ => k_ < w.heap.size) _ _ l0 t123 _ ?side1 A2.out).mono ?_); (case side1 => exact Kd.V_mk HC0.out (Kd.F_below (Kd.C_F (Kd.heap_int .u32) HR0.out) (bq HB.out))); rintro e w4 ⟨v124, rfl, ho0, hb⟩; refine ⟨_, rfl, ?_⟩; have HO125 := md_ (Kd.V_lower (Kd.V_mono (ok' := fun k_ => True) ho0 (fun k_ hk_ => trivial)) (below_size (bq HB.out))); replace HB := bb_ HB hb; (try clear hb); (try clear ho0); obtain ⟨Ao5, co5, eo5⟩ := Kd.V_slice HO125.out; subst eo5) | ((with_reducible refine gate_callee (f := 110) rfl ?_); refine goesL_ (some 5) rfl rfl Tryz.func110 (by kernel_rfl) rfl #[.slice Ao5 t123.length co5] rfl gq ?_; (with_reducible refine (slices_Clone_uint32_uint32.calls _ _ t123 t126 _ ?side1 ?side2 A3.out).mono ?_); (case side1 => repeat (first | exact (Kd.V_reads' HO125.out).2.2 | (with_reducible refine Kd.C_alloc ?_ _) | (with_reducible refine Kd.C_drewN ?_ _) | (with_reducible refine Kd.C_drew ?_))); (case side2 => exact (Kd.V_reads' HO125.out).2.1); rintro e w6 ⟨v127, rfl, ho0, hb⟩; refine ⟨_, rfl, ?_⟩; replace HO125 := md_ (Kd.V_elder' (vq HO125.out) (Kd.R_base ho0) hb); have HO128 := md_ (Kd.R_lower ho0 (below_size (bq HB.out))); replace HB := bb_ HB hb; (try clear hb); (try clear ho0)))
 go_ret
 exact ⟨_, eq_, rq HO128.out, bq HB.out⟩
def bits_Div32.f (a0 a1 a2 : Int) : Option (Int × Int) :=
 if 0 ≤ a0 ∧ a0 < a2 ∧ 0 ≤ a1 ∧ a1 < 4294967296 ∧ a2 < 4294967296 then some ((a0 * 4294967296 + a1) / a2, (a0 * 4294967296 + a1) % a2) else none
set_option maxRecDepth 100000 in
theorem bits_Div32.calls (a0 : Int) (a1 : Int) (a2 : Int) (r1 r2 : Int) (w : World) (h : bits_Div32.f a0 a1 a2 = some (r1, r2)) :
  Calls Tryz.prog 125 #[.int .u32 a0, .int .u32 a1, .int .u32 a2] w fun e w' => e = .returned (.tuple #[.int .u32 r1, .int .u32 r2]) ∧ Drawn0 w w' := by
 unfold bits_Div32.f at h
 by_cases hc : 0 ≤ a0 ∧ a0 < a2 ∧ 0 ≤ a1 ∧ a1 < 4294967296 ∧ a2 < 4294967296
 ·rw [if_pos hc] at h
  simp only [Option.some.injEq, Prod.mk.injEq] at h
  have h1 := md_ h.1
  have h2 := md_ h.2
  clear h
  obtain ⟨h0, h0', h1', h1'', h2'⟩ := hc
  have h3 : (a2 != 0) = true := by simp; omega
  have h4 : decide (a2 ≤ a0) = false := by simp; omega
  have hor : bits .or .u64 (a0 * 4294967296) a1 = a0 * 4294967296 + a1 := by
   rw [u64_or _ _ (by omega) (by omega) (by omega) (by omega), nat_join 32 _ _ (by omega) (by omega)]
   omega
  have hq0 : 0 ≤ (a0 * 4294967296 + a1) / a2 := Int.ediv_nonneg (by omega) (by omega)
  have hq1 : (a0 * 4294967296 + a1) / a2 < 4294967296 := by
   rw [Int.ediv_lt_iff_lt_mul (by omega)]
   have : (a0 + 1) * 4294967296 ≤ a2 * 4294967296 := Int.mul_le_mul_of_nonneg_right (by omega) (by omega)
   rw [Int.mul_comm 4294967296 a2]
   omega
  have hr0 : 0 ≤ (a0 * 4294967296 + a1) % a2 := Int.emod_nonneg _ (by omega)
  have hr1 : (a0 * 4294967296 + a1) % a2 < a2 := Int.emod_lt_of_pos _ (by omega)
  go_enter Tryz.func125, Tryz.ntmps125
  go_wp2
  go_quiet (fail)
  go_wp2
  go_ret2
  exact ⟨by first | rfl | (rw [← h1.out, ← h2.out]; rfl), by first | exact ⟨_, rfl⟩ | exact ⟨0, rfl⟩⟩
 ·rw [if_neg hc] at h
  exact absurd h (by simp)
end Go.Proofs.YtneepokiioefgaaGreatDoor.PNat
namespace Go.Proofs
open Go.Shelf
end Go.Proofs
namespace Go.Proofs.YtneepokiioefgaaGreatDoor.PNat
open Go.RowKit YtneepokiioefgaaGreatDoorW.PrintWords YtneepokiioefgaaGreatDoorW.PrintLast YtneepokiioefgaaGreatDoorW.PrintMore
attribute [local go_sem] max2_int min2_int max_two min_two max_three min_three max_four min_four
section
open Go.Shelf
attribute [local go_sem] Oper.semAt_some
set_option maxRecDepth 100000 in
theorem trim_at (A0 : Option Addr) (c0 : Nat) (l0 : List Int) (w : World) (hr0 : Kd.C (Kd.int .u32) w A0 l0.length l0) (hc0 : l0.length ≤ c0) :
  Calls Tryz.prog 86 #[.slice A0 l0.length c0] w fun e w' => e = .returned (.slice A0 (Num.trimW l0).length c0) ∧ w = w' := by
 have HR := md_ hr0
 have HC := md_ hc0
 clear hr0 hc0
 obtain ⟨i0, hi0, _, hsz, _⟩ := info_parts info119
 go_enter Tryz.func86, Tryz.ntmps86
 go_wp2
 go_loopg [0] l0.length (fun kq v0 w' => ∃ m : Nat, v0 = .slice A0 m c0 ∧ Aside0 (m ≤ l0.length) ∧ Aside0 (m = kq) ∧ Aside0 (Num.trimW (l0.take m) = Num.trimW l0) ∧ w = w')
 case atStart => exact ⟨l0.length, rfl, ⟨Nat.le_refl _⟩, ⟨rfl⟩, ⟨by rw [List.take_length]⟩, rfl⟩
 case round =>
  obtain ⟨m, rfl, HM, HQ, HT, rfl⟩ := hrel
  by_cases h0 : 0 < m
  ·obtain ⟨j, rfl⟩ : ∃ j, m = j + 1 := ⟨m - 1, by omega⟩
   obtain ⟨kq, rfl⟩ : ∃ kq, gk = kq + 1 := ⟨j, HQ.out.symm⟩
   have h1 : decide (0 < ((j + 1 : Nat) : Int)) = true := decide_eq_true (by omega)
   have h2 : decide (0 < j + 1) = true := decide_eq_true (by omega)
   have hjb : (j : Int) + 1 ≤ 9223372036854775807 := by have := HM.out; have := HR.out.2.1; omega
   obtain ⟨ad, e1, hx⟩ := Kd.at_int HR.out (j : Int) (by omega) (by have := HM.out; omega)
   subst e1
   rw [Int.toNat_natCast] at hx
   have hj : (j : Int) < ((j + 1 : Nat) : Int) := by omega
   by_cases hz : rd l0 (j : Int) = 0
   ·have hz1 : (rd l0 (j : Int) == 0) = true := beq_iff_eq.mpr hz
    have hcut := cut_to (P := Tryz.prog) 96 119 .i64 Tryz.underlying96 hi0 (some ad) (j + 1) c0 (j : Int) (by omega) (by omega) (by have := HM.out; have := HC.out; omega)
    rw [Int.toNat_natCast] at hcut
    go_wp2
    go_roundg kq
    case measure => omega
    case rel =>
     exact ⟨j, rfl, ⟨by have := HM.out; omega⟩, ⟨by have := HQ.out; omega⟩, ⟨by
      rw [← HT.out, List.take_succ_eq_append_getElem (by have := HM.out; omega)]
      have e2 : l0[j]'(by have := HM.out; omega) = 0 := by
       have h3 := hz
       simp only [rd, Int.toNat_natCast] at h3
       rw [List.getD_eq_getElem?_getD, List.getElem?_eq_getElem (by have := HM.out; omega)] at h3
       exact h3
      rw [e2, Num.trimW_snoc_zero]⟩, rfl⟩
   ·have hz1 : (rd l0 (j : Int) == 0) = false := beq_eq_false_iff_ne.mpr hz
    go_wp2
    go_ret
    refine ⟨?_, rfl⟩
    have e2 : l0[j]'(by have := HM.out; omega) ≠ 0 := by
     intro h4
     apply hz
     simp only [rd, Int.toNat_natCast]
     rw [List.getD_eq_getElem?_getD, List.getElem?_eq_getElem (by have := HM.out; omega)]
     exact h4
    have e3 : (Num.trimW l0).length = j + 1 := by
     rw [← HT.out, List.take_succ_eq_append_getElem (by have := HM.out; omega), Num.trimW_snoc_ne _ e2]
     simp
     have := HM.out; omega
    rw [e3]; rfl
  ·obtain rfl : m = 0 := by omega
   go_wp2
   go_ret
   refine ⟨?_, rfl⟩
   have e3 : (Num.trimW l0).length = 0 := by rw [← HT.out]; simp [Num.trimW]
   rw [e3]; rfl
theorem trim_at' (A0 : Option Addr) (c0 n : Nat) (l0 : List Int) (w : World) (hn : l0.length = n) (hr0 : Kd.C (Kd.int .u32) w A0 l0.length l0) (hc0 : l0.length ≤ c0) :
  Calls Tryz.prog 86 #[.slice A0 n c0] w fun e w' => e = .returned (.slice A0 (Num.trimW l0).length c0) ∧ w = w' := by
 subst hn
 exact trim_at A0 c0 l0 w hr0 hc0
def dcells (n : Int) (k : Nat) : Array Value := ((List.range 9).map fun j => Value.int .u8 (if 9 ≤ j + k then 48 + n / 10 ^ (8 - j) % 10 else 0)).toArray
theorem dcells_size (n : Int) (k : Nat) : (dcells n k).size = 9 := by simp [dcells]
theorem dcells_get (n : Int) (k j : Nat) (hj : j < 9) : (dcells n k)[j]? = some (.int .u8 (if 9 ≤ j + k then 48 + n / 10 ^ (8 - j) % 10 else 0)) := by
 simp [dcells, hj]
theorem dcells_step (n : Int) (k : Nat) (hk : k < 9) : (dcells n k).setIfInBounds (8 - k) (.int .u8 (48 + n / 10 ^ k % 10)) = dcells n (k + 1) := by
 apply Array.ext_getElem?
 intro j
 rw [Array.getElem?_setIfInBounds]
 by_cases hj : j < 9
 ·rw [dcells_get n (k + 1) j hj]
  by_cases e : 8 - k = j
  ·subst e
   rw [if_pos rfl, if_pos (by rw [dcells_size]; omega), if_pos (by omega), show 8 - (8 - k) = k by omega]
  ·rw [if_neg e, dcells_get n k j hj]
   by_cases h1 : 9 ≤ j + k
   ·rw [if_pos h1, if_pos (by omega)]
   ·rw [if_neg h1, if_neg (by omega)]
 ·rw [if_neg (by omega), Array.getElem?_eq_none (by rw [dcells_size]; omega), Array.getElem?_eq_none (by rw [dcells_size]; omega)]
theorem dcells_zero (n : Int) : dcells n 0 = #[.int .u8 0, .int .u8 0, .int .u8 0, .int .u8 0, .int .u8 0, .int .u8 0, .int .u8 0, .int .u8 0, .int .u8 0] := by
 simp [dcells, List.range, List.range.loop]
theorem div_step (n : Int) (k : Nat) (h0 : 0 ≤ n) : n / 10 ^ k / 10 = n / 10 ^ (k + 1) := by
 rw [Int.ediv_ediv_of_nonneg (Int.pow_nonneg (by decide)), Int.pow_succ]
set_option maxRecDepth 100000 in
theorem digits_any (n : Int) (w : World) (h0 : 0 ≤ n) (h1 : n < 4294967296) :
  Calls Tryz.prog 127 #[.int .u32 n] w fun e w' => e = .returned (.agg (dcells n 9)) ∧ Below w.heap.size w w' := by
 go_enter Tryz.func127, Tryz.ntmps127
 go_wp2
 go_loopw [0, 5] (fun v0 v5 wr => ∃ k : Nat, v0 = .int .u32 (n / 10 ^ k) ∧ v5 = .int .i64 k ∧ Aside0 (k ≤ 9) ∧ Aside0 (wr.heap[w.heap.size + 1]? = some (.cells (dcells n k) 161 (0, 0))) ∧ Aside0 (wr.heap[w.heap.size]? = some (.cells (dcells n 0) 161 (0, 0))) ∧ Aside0 (Below w.heap.size w wr)) (fun _ i _ => 9 - (intOf i).toNat)
 case atStart => exact ⟨0, by simp, rfl, ⟨by omega⟩, ⟨by rw [dcells_zero]; exact heap_alloc2_new w _ _⟩, ⟨by rw [dcells_zero]; exact heap_alloc2_old w _ _⟩, ⟨((Below.refl _ _).alloc (Nat.le_refl _) _).alloc (by simp) _⟩⟩
 case round =>
  obtain ⟨k, rfl, rfl, HK, HC, HZ, HB⟩ := hrel
  have hsz : w.heap.size + 1 < wr.heap.size := by
   rcases Nat.lt_or_ge (w.heap.size + 1) wr.heap.size with h | h
   ·exact h
   ·have h2 := HC.out; rw [Array.getElem?_eq_none h] at h2; exact absurd h2 (by simp)
  by_cases hk : k < 9
  ·have hd0 : 0 ≤ n / 10 ^ k := Int.ediv_nonneg h0 (Int.pow_nonneg (by decide))
   have hd1 : n / 10 ^ k < 4294967296 := Int.lt_of_le_of_lt (Int.ediv_le_self _ h0) h1
   obtain ⟨q, hq⟩ : ∃ q, q = n / 10 ^ k := ⟨_, rfl⟩
   have HQ := md_ hq
   rw [← hq] at hd0 hd1 ⊢
   clear hq
   have hcell : wr.cell? ⟨w.heap.size + 1, 8 - k, none⟩ = some (.int .u8 (if 9 ≤ (8 - k) + k then 48 + n / 10 ^ (8 - (8 - k)) % 10 else 0)) := by
    rw [Lib.cell_of_heap HC.out]; exact dcells_get n k (8 - k) (by omega)
   rw [if_neg (by omega)] at hcell
   have hfr : wr.frozen? ⟨w.heap.size + 1, 8 - k, none⟩ = false := Lib.frozen_of_heap HC.out _
   go_wp2
   go_roundw
   case rel =>
    refine ⟨k + 1, ?_, by first | rfl | (go_num; done) | simp, ⟨by omega⟩, ⟨?_⟩, ⟨?_⟩, ⟨(HB.out).setCell (p := ⟨w.heap.size + 1, _, none⟩) (by simp) _⟩⟩
    ·rw [HQ.out, div_step n k h0]
    ·rw [heap_setCell_same wr (w.heap.size + 1) (8 - k) _ _ _ HC.out, HQ.out, dcells_step n k hk]
    ·rw [heap_setCell_other wr _ _ _ (by simp)]; exact HZ.out
   case measure => simp [intOf]; omega
  ·obtain rfl : k = 9 := by have := HK.out; omega
   have hlt0 : decide (((9 : Nat) : Int) < 9) = false := by decide
   go_wp2_with (first | (refine wpList_load_row rfl 161 _ rfl (w.heap.size + 1) rfl 161 _ (0, 0) _ HC.out Tryz.underlying161 rfl (by kernel_rfl) ?_) | (refine wpList_store_row rfl 161 _ _ rfl w.heap.size (dcells n 9) rfl rfl 161 _ HZ.out (by kernel_rfl) rfl (by simp [dcells, List.range, List.range.loop, Value.oneCell']) ?_))
   refine bodyPost_ret (v := .agg (dcells n 9)) (results_cell_row rfl _ _ w.heap.size 161 _ (0, 0) _ rfl (setRow_heap wr w.heap.size _ _ _ _ HZ.out) Tryz.underlying161 rfl (by kernel_rfl)) rfl ⟨rfl, below_setRow HB.out (Nat.le_refl _) _⟩
set_option maxRecDepth 100000 in
theorem copyCheck_used (b : Nat) (w : World) (h0 : w.cell? ⟨b, 0, none⟩ = some (.pointer (some ⟨b, 0, none⟩))) :
  Calls Tryz.prog 52 #[.pointer (some ⟨b, 0, none⟩)] w fun e w' => e = .returned (.tuple #[]) ∧ w = w' := by
 obtain ⟨j, hj, _⟩ := Option.map_eq_some_iff.1 (show (Tryz.prog.info? 74).map (·.size) = some 2 from by kernel_rfl)
 go_enter Tryz.func52, Tryz.ntmps52
 go_wp2
 rw [Lib.run_neq_ptr_same w _ Tryz.underlying71 hj]
 go_wp2
 go_end0
 exact ⟨rfl, rfl⟩
set_option maxRecDepth 100000 in
theorem copyCheck_fresh (b : Nat) (w : World) (h0 : w.cell? ⟨b, 0, none⟩ = some (.pointer none)) (hsh : w.shape? b = some (74, 2)) (hfz : w.frozen? ⟨b, 0, none⟩ = false) :
  Calls Tryz.prog 52 #[.pointer (some ⟨b, 0, none⟩)] w fun e w' => e = .returned (.tuple #[]) ∧ w.setCell ⟨b, 0, none⟩ (.pointer (some ⟨b, 0, none⟩)) = w' := by
 obtain ⟨j, hj, hjs⟩ := Option.map_eq_some_iff.1 (show (Tryz.prog.info? 74).map (·.size) = some 2 from by kernel_rfl)
 go_enter Tryz.func52, Tryz.ntmps52
 go_wp2
 rw [Lib.run_to_unsafe w ⟨b, 0, none⟩ Tryz.underlying71 Tryz.underlying110 hj (by rw [hjs]; decide) hsh (Nat.zero_lt_succ 1)]
 simp only [Result.andThen]
 rw [Oper.upon_value]
 go_wp2
 rw [run_callFunc_extern Tryz.func70 (by kernel_rfl) (by kernel_rfl) (by kernel_rfl) (e := Extern.AbiNoEscape.same) (by kernel_rfl)]
 rw [Lib.run_noEscape]
 simp only [Result.andThen]
 rw [Oper.upon_value]
 go_wp2
 rw [Lib.run_from_unsafe w ⟨b, 0, none⟩ Tryz.underlying110 Tryz.underlying71 hj hsh (by kernel_rfl)]
 simp only [Result.andThen]
 rw [Oper.upon_value]
 go_wp2
 go_end0
 exact ⟨rfl, rfl⟩
def Keep8 (b : Nat) (W W' : World) : Prop := ∀ (k : Nat) (cs : Array Value) (T : TypeId) (fr : Nat × Nat), W.heap[k]? = some (.cells cs T fr) → T ≠ 5 → k ≠ b → W'.heap[k]? = some (.cells cs T fr)
theorem Keep8.trans {b : Nat} {X Y Z : World} (h : Keep8 b X Y) (g : Keep8 b Y Z) : Keep8 b X Z := fun k cs T fr h1 h2 h3 => g k cs T fr (h k cs T fr h1 h2 h3) h2 h3
theorem Keep8.set (b j : Nat) (W : World) (v : Value) : Keep8 b W (W.setCell ⟨b, j, none⟩ v) := fun k cs T fr h1 _ h3 => (heap_setCell_other W ⟨b, j, none⟩ k v h3).trans h1
theorem Keep8.grown {b : Nat} {B n : Nat} {v : Value} {xs : List Value} {W W' : World} (hown : W.ownsRow B 5 1 v n xs) (hg : W.grownBy W' v.ownBlock) : Keep8 b W W' := fun k cs T fr h1 h2 _ =>
 (hg.block k (Array.getElem?_eq_some_iff.1 h1).1 (fun e => Lib.ownBlock_ne hown h1 h2 e.symm)).trans h1
theorem own_isCells {W : World} {B e n : Nat} {v : Value} {xs : List Value} (hown : W.ownsRow B e 1 v n xs) : ∀ (j : Nat) (o : Obj), v.ownBlock = some j → W.heap[j]? = some o → o.isCells = true := by
 intro j o hj ho
 rcases hown.2 with ⟨rfl, _⟩ | ⟨g, cap, cur, rfl, _, hg, _⟩
 ·simp [Value.ownBlock] at hj
 ·simp only [Value.ownBlock, Option.some.injEq] at hj
  subst hj
  rw [hg] at ho
  cases ho
  rfl
set_option maxRecDepth 100000 in
theorem builder_write (B b : Nat) (bs : List Value) (ad : Addr) (m c : Nat) (news : List Value) (w : World) (h : Lib.IsBuilder 74 5 B b bs w)
  (hl : news.length = m) (hnews : ∀ j u, news[j]? = some u → w.cell? (ad.add j) = some u) (hadb : ad.block ≠ b) (h1 : ∀ u ∈ news, u.oneCell' = true)
  (hlen : bs.length + m ≤ 140737488355328) (hBw : B ≤ w.heap.size) :
  Calls Tryz.prog 128 #[.pointer (some ⟨b, 0, none⟩), .slice (some ad) m c] w fun e w' => e = .returned (.tuple #[.int .i64 m, .nilIface]) ∧ Lib.BuilderAt 74 5 B b (.pointer (some ⟨b, 0, none⟩)) (bs ++ news) w' ∧ Below B w w' ∧ KeepsOthers w w' ∧ Keep8 b w w' := by
 have cC : Calls Tryz.prog 52 #[.pointer (some ⟨b, 0, none⟩)] w fun e w' => e = .returned (.tuple #[]) ∧ Lib.BuilderAt 74 5 B b (.pointer (some ⟨b, 0, none⟩)) bs w' ∧ Below B w w' ∧ KeepsOthers w w' ∧ Keep8 b w w' ∧ (∀ a : Addr, a.block ≠ b → w'.cell? a = w.cell? a) := by
  rcases h with h | h
  ·refine (copyCheck_fresh b w h.cell0 h.shape h.frozen0).mono ?_
   rintro e w' ⟨rfl, rfl⟩
   exact ⟨rfl, h.used _, (Below.refl B w).setCell (p := ⟨b, 0, none⟩) h.1 _, KeepsOthers.setCell _ _ _, Keep8.set _ _ _ _, fun a ha => by
    unfold World.cell?
    rw [heap_setCell_other w ⟨b, 0, none⟩ a.block _ ha]⟩
  ·refine (copyCheck_used b w h.cell0).mono ?_
   rintro e w' ⟨rfl, rfl⟩
   exact ⟨rfl, h, Below.refl B _, KeepsOthers.refl _, fun _ _ _ _ h _ _ => h, fun _ _ => rfl⟩
 clear h
 obtain ⟨i0, hi, hz0, hz1, hz2⟩ := info_parts (show (Tryz.prog.info? 5).map (fun i => (i.zero, i.size, i.bytes)) = some (some (.int .u8 0), 1, 1) from by kernel_rfl)
 go_enter Tryz.func128, Tryz.ntmps128
 go_wp2_with (go_at_call 52; refine cC.mono ?_)
 rintro e w1 ⟨rfl, h1', hb1, hko, hk8, hcells⟩
 obtain ⟨hB, v, hbk, hown, hne⟩ := h1'
 have c0 : w1.cell? ⟨b, 0, none⟩ = some (.pointer (some ⟨b, 0, none⟩)) := by rw [Lib.cell_of_heap hbk]; rfl
 have c1 : w1.cell? ⟨b, 1, none⟩ = some v := by rw [Lib.cell_of_heap hbk]; rfl
 have hnews1 : ∀ j u, news[j]? = some u → w1.cell? (ad.add j) = some u := fun j u hj => by rw [hcells (ad.add j) (by unfold Addr.add; split <;> exact hadb)]; exact hnews j u hj
 go_wp2_with (at_builtin; refine wpList_append_own _ rfl _ _ 72 rfl B 5 i0 (.int .u8 0) 1 1 Tryz.underlying72 hi hz0 hz1 hz2 rfl (by decide) _ _ _ rfl hown ad m c news rfl (by omega) hnews1 h1 ?c3 ?c4 ?c5 ?_)
 case c3 => unfold maxLen; omega
 case c4 => omega
 case c5 => have := hb1.size; omega
 intro v' w2 hown' hgrow _
 have hlt : b < w1.heap.size := by
  rcases Nat.lt_or_ge b w1.heap.size with h' | h'
  ·exact h'
  ·simp [Array.getElem?_eq_none h'] at hbk
 have hb2 : w2.heap[b]? = some (.cells #[.pointer (some ⟨b, 0, none⟩), v] 74 (0, 0)) := by
  rw [hgrow.block b hlt (fun e => hne e.symm)]
  exact hbk
 have d0 : w2.cell? ⟨b, 0, none⟩ = some (.pointer (some ⟨b, 0, none⟩)) := by rw [Lib.cell_of_heap hb2]; rfl
 have d1 : w2.cell? ⟨b, 1, none⟩ = some v := by rw [Lib.cell_of_heap hb2]; rfl
 have f1 : w2.frozen? ⟨b, 1, none⟩ = false := Lib.frozen_of_heap hb2 1
 obtain ⟨ao, n', cap, rfl⟩ : ∃ ao n' cap, v' = .slice ao n' cap := by
  rcases hown'.2 with ⟨hv, _⟩ | ⟨g, cap, cur, hv, _⟩
  ·exact ⟨_, _, _, hv⟩
  ·exact ⟨_, _, _, hv⟩
 go_wp2
 go_ret2
 refine ⟨rfl, ?_, ?_, ?_, ?_⟩
 ·exact Lib.BuilderAt.put (T := 74) (e := 5) hB hb2 (bs' := bs ++ news) (by simpa [hl] using hown') (by decide)
 ·exact (hb1.grown hgrow (by have := hb1.size; omega) (fun k hk => (hown.lt k hk).1)).setCell (p := ⟨b, 1, none⟩) hB _
 ·exact (hko.trans (KeepsOthers.of_grownBy hgrow (own_isCells hown))).trans (KeepsOthers.setCell _ _ _)
 ·exact (hk8.trans (Keep8.grown hown hgrow)).trans (Keep8.set _ _ _ _)
theorem builder_below {B b : Nat} {bs : List Value} {W W' : World} (h : Lib.IsBuilder 74 5 B b bs W) (hb : Below W.heap.size W W') : Lib.IsBuilder 74 5 B b bs W' := by
 have key : ∀ p, Lib.BuilderAt 74 5 B b p bs W → Lib.BuilderAt 74 5 B b p bs W' := by
  intro p h
  have hlt := h.lt
  obtain ⟨hB, v, hbk, hown, hne⟩ := h
  exact ⟨hB, v, (hb.block b hlt).trans hbk, pw_own_below hown hb, hne⟩
 rcases h with h | h
 ·exact .inl (key _ h)
 ·exact .inr (key _ h)
theorem wpListIn_store_row {F : Fence} {n : Nat} {P : Program} {w : World} {ops : Array Oper} {rest : List Oper} {o : Oper} {a : Act} {Q : Exit → Act → World → Prop} (hgd : o.guard = none) (ty : TypeId) (x y : Operand) (ho : o.op = .store ty x y)
  (g : Nat) (cells : Array Value) (hx : a.eval x = .pointer (some ⟨g, 0, none⟩)) (hy : a.eval y = .agg cells)
  (t : TypeId) (old : Array Value) (hg : w.heap[g]? = some (.cells old t (0, 0))) (hi : (P.info? ty).map (·.size) = some cells.size)
  (hold : old.size = cells.size) (h1 : cells.all (·.oneCell') = true)
  (h : wpListIn F n P ops Q rest (a.put o.dst undef) (w.setRow g cells)) : wpListIn F n P ops Q (o :: rest) a w := by
 refine wpListIn_plain hgd fun K hK' => ?_
 unfold Oper.wpIn
 refine ⟨by simp [Oper.about, ho], ?_⟩
 rw [Oper.semAt_plain F _ _ (by rw [ho]; intro c hc; cases hc)]
 simp only [execOp, ho, hx, hy, Instr.storeAt, Instr.sureAddr, Sem.run_bind, Sem.run_pure, Result.andThen_ok, run_storeVar_row w g t ty old cells hg hi hold h1]
 exact hK' _ _ h
def Kp2 (B1 B2 : Nat) (W W' : World) : Prop := W'.heap[B1]? = W.heap[B1]? ∧ W'.heap[B2]? = W.heap[B2]?
theorem Kp2.refl (B1 B2 : Nat) (W : World) : Kp2 B1 B2 W W := ⟨rfl, rfl⟩
theorem Kp2.trans {B1 B2 : Nat} {X Y Z : World} (h : Kp2 B1 B2 X Y) (k : Kp2 B1 B2 Y Z) : Kp2 B1 B2 X Z := ⟨k.1.trans h.1, k.2.trans h.2⟩
theorem Kp2.cell1 {B1 B2 : Nat} {W W' : World} (h : Kp2 B1 B2 W W') (j : Nat) : W'.cell? ⟨B1, j, none⟩ = W.cell? ⟨B1, j, none⟩ := by unfold World.cell?; rw [h.1]
theorem Kp2.cell2 {B1 B2 : Nat} {W W' : World} (h : Kp2 B1 B2 W W') (j : Nat) : W'.cell? ⟨B2, j, none⟩ = W.cell? ⟨B2, j, none⟩ := by unfold World.cell?; rw [h.2]
theorem Kp2.grown {B1 B2 : Nat} {W W' : World} {row : Option Nat} (hg : W.grownBy W' row) (h1 : B1 < W.heap.size) (h2 : B2 < W.heap.size) (n1 : some B1 ≠ row) (n2 : some B2 ≠ row) : Kp2 B1 B2 W W' := ⟨hg.block B1 h1 n1, hg.block B2 h2 n2⟩
abbrev U32P := { x : Int × Int // 0 ≤ x.2 ∧ x.2 < 4294967296 }
set_option maxRecDepth 100000 in
theorem back1_in (F : Fence) (n : Nat) (hf : F.fn 137) (hro : F.round = none) (hn : 1 ≤ n) (l Bs b off cap : Nat) (zs : List Int) (hz : ∀ z ∈ zs, 0 ≤ z ∧ z < 4294967296) (hreach : zs.length * 4 ≤ 140737488351232) (J Jx : List U32P → World → Prop)
  (hY : ∀ pre x W, J pre W → pre.length < zs.length → YieldAt F (n - 1) Tryz.prog l #[.int .i64 x.1.1, .int .u32 x.1.2] W fun e W' =>
   (e = .returned (.bool true) ∧ J (pre ++ [x]) W' ∧ Kp2 Bs b W W') ∨ (e = .returned (.bool false) ∧ Jx (pre ++ [x]) W'))
  (W : World) (hBs : W.cell? ⟨Bs, 0, none⟩ = some (.slice (some ⟨b, off, none⟩) zs.length cap))(hc : ∀ j, j < zs.length → W.cell? ⟨b, off + j, none⟩ = some (.int .u32 (zs[j]?.getD 0))) (h0 : J [] W) :
  CallsIn F n Tryz.prog 137 #[.func (.yield l) #[] #[], .pointer (some ⟨Bs, 0, none⟩)] W fun e W' => (∃ v, e = .returned v) ∧
   ((∃ ys : List U32P, ys.map (fun x => x.1.2) = zs.reverse ∧ J ys W') ∨ (∃ pre : List U32P, True ∧ Jx pre W')) := by
 refine callsIn_of_wp Tryz.func137 rfl hf ?_ hro
 simp only [Tryz.ntmps137, List.size_toArray, List.length_cons, List.length_nil, Nat.reduceAdd, Nat.reduceSub, Array.replicate_succ, Array.replicate_zero, List.push_toArray, List.append_toArray, List.nil_append, List.cons_append]
 gi_wp2
 gi_loopw [3] (fun i wr => ∃ (j : Nat) (pre : List U32P), j ≤ zs.length ∧ i = .int .i64 ((j : Int) - 1) ∧ pre.map (fun x => x.1.2) = (zs.drop j).reverse ∧ pre.length = zs.length - j ∧ J pre wr ∧ Kp2 Bs b W wr)
  (fun i _ => ((intOf i) + 1).toNat)
 case atStart => exact ⟨zs.length, [], Nat.le_refl _, rfl, by simp, by simp, h0, Kp2.refl _ _ _⟩
 case round =>
  obtain ⟨j, pre, hj, rfl, hp, hpl, hJs, hnx⟩ := hrel
  have hBw : wr.cell? ⟨Bs, 0, none⟩ = some (.slice (some ⟨b, off, none⟩) zs.length cap) := (hnx.cell1 0).trans hBs
  cases j with
  | zero =>
   have e0 : (((0 : Nat) : Int) - 1) = -1 := by decide
   rw [e0]
   gi_wp2
   go_end0
   exact ⟨⟨_, rfl⟩, .inl ⟨pre, by simpa using hp, hJs⟩⟩
  | succ j =>
   have e0 : (((j + 1 : Nat) : Int) - 1) = (j : Int) := by omega
   rw [e0]
   have hcx : wr.cell? ⟨b, off + j, none⟩ = some (.int .u32 (zs[j]?.getD 0)) := (hnx.cell2 _).trans (hc j (by omega))
   have hzj : 0 ≤ zs[j]?.getD 0 ∧ zs[j]?.getD 0 < 4294967296 := by
    rw [List.getElem?_eq_getElem (by omega)]
    exact hz _ (List.getElem_mem _)
   obtain ⟨fn, tmps, assign, body, hy, hR⟩ := hY pre ⟨((j : Int), zs[j]?.getD 0), hzj⟩ wr hJs (by omega)
   dsimp only at hy
   have hj2 : (j : Int) < (zs.length : Int) := by omega
   gi_wp2
   refine hR.mono ?_
   rintro e W3 (⟨rfl, hJ3, hk3⟩ | ⟨rfl, hJx3⟩)
   ·gi_wp2
    go_roundw
    case rel => exact ⟨j, _, by omega, rfl, by rw [List.map_append, hp, List.drop_eq_getElem_cons (show j < zs.length by omega), List.reverse_cons]; simp [List.getElem?_eq_getElem (show j < zs.length by omega)], by simp; omega, hJ3, hnx.trans hk3⟩
    case measure => first | (simp [intOf]; done) | (simp [intOf]; omega)
   ·gi_wp2
    refine bodyPost_ret (results_none rfl _ _ _) rfl ?_
    exact ⟨⟨_, rfl⟩, .inr ⟨_, trivial, hJx3⟩⟩
theorem back_in (F : Fence) (n : Nat) (hf : F.fn 126) (hro : F.round = none) (a : Option Addr) (len cap : Nat) (w : World) :
  CallsIn F n Tryz.prog 126 #[.slice a len cap] w fun e w' => e = .returned (.func (.func 137) #[] #[.pointer (some ⟨w.heap.size, 0, none⟩)]) ∧ w' = w.alloc (.cells #[.slice a len cap] 96) := by
 refine callsIn_of_wp Tryz.func126 rfl hf ?_ hro
 simp only [Tryz.ntmps126, List.size_toArray, List.length_cons, List.length_nil, Nat.reduceAdd, Nat.reduceSub, Array.replicate_succ, Array.replicate_zero, List.push_toArray, List.append_toArray, List.nil_append, List.cons_append]
 gi_wp2
 go_ret
 exact ⟨rfl, rfl⟩
theorem back_stops (F : Fence) (n : Nat) (hf : F.fn 137) (hro : F.round = none) (hn : 1 ≤ n) (Bs b off cap : Nat) (zs : List Int) (hz : ∀ z ∈ zs, 0 ≤ z ∧ z < 4294967296) (hreach : zs.length * 4 ≤ 140737488351232) (w : World) (hBs : Bs < w.heap.size) (hb : b < w.heap.size)
  (hc : w.cell? ⟨Bs, 0, none⟩ = some (.slice (some ⟨b, off, none⟩) zs.length cap)) (hcs : ∀ j, j < zs.length → w.cell? ⟨b, off + j, none⟩ = some (.int .u32 (zs[j]?.getD 0))) :
  SeqStopsK F n Tryz.prog 137 #[.pointer (some ⟨Bs, 0, none⟩)] (fun x : U32P => #[Value.int .i64 x.1.1, Value.int .u32 x.1.2]) (Kp2 Bs b) (fun ys => ys.map (fun x => x.1.2) = zs.reverse) (fun _ => True) zs.length w := fun l J Jx W hW _ _ hY h0 => by
 exact back1_in F n hf hro hn l Bs b off cap zs hz hreach J Jx hY W ((hW.cell (p := ⟨Bs, 0, none⟩) hBs).trans hc) (fun j hj => (hW.cell (p := ⟨b, off + j, none⟩) hb).trans (hcs j hj)) h0
theorem trim_pure (k : Nat) : ∀ l : List Int, l.length < k → l.length ≤ 9223372036854775807 → nat_trim.l0 k l = some (Num.trimW l) := by
 induction k with
 | zero => intro l h; omega
 | succ k ih =>
  intro l h hl
  simp only [nat_trim.l0]
  rcases List.eq_nil_or_concat l with rfl | ⟨m, x, rfl⟩
  ·simp [Num.trimW]
  ·rw [List.concat_eq_append] at h hl ⊢
   have e1 : wrap64 (((m ++ [x]).length : Int) - 1) = (m.length : Int) := by
    simp only [List.length_append, List.length_cons, List.length_nil] at hl ⊢
    unfold wrap64; omega
   have e2 : rd (m ++ [x]) (m.length : Int) = x := by simp [rd]
   rw [e1, e2, if_pos (by simp only [List.length_append, List.length_cons, List.length_nil]; omega), if_pos (by omega), if_pos (by simp only [List.length_append, List.length_cons, List.length_nil]; omega)]
   by_cases hx : x = 0
   ·rw [if_pos hx, if_pos (by simp only [List.length_append, List.length_cons, List.length_nil]; omega)]
    have e3 : (m ++ [x]).take ((m.length : Int)).toNat = m := by simp
    rw [e3, ih m (by simp at h; omega) (by simp at hl; omega), hx, Num.trimW_snoc_zero]
   ·rw [if_neg hx, Num.trimW_snoc_ne _ hx]
theorem norm_pure (l : List Int) (hl : l.length ≤ 1000000) : nat_Norm.f (l.length + 1) l = some (Num.trimW l) := by
 unfold nat_Norm.f nat_trim.f
 rw [trim_pure _ l (by omega) (by omega)]
 have := Num.trimW_length_le l
 simp only [Option.bind_some, slices_Clone_uint32_uint32.f]
 rw [if_pos (by omega)]
 rfl
theorem byteCells_dg9 (n : Int) (h0 : 0 ≤ n) : (dcells n 9).toList = Lib.byteCells (Num.dg9 n) := by
 simp only [dcells, Num.dg9, Lib.byteCells, List.map_map]
 refine List.map_congr_left fun j hj => ?_
 have hj9 : j < 9 := List.mem_range.1 hj
 have h1 : 0 ≤ n / 10 ^ (8 - j) % 10 := Int.emod_nonneg _ (by decide)
 have h2 : n / 10 ^ (8 - j) % 10 < 10 := Int.emod_lt_of_pos _ (by decide)
 simp only [Function.comp]
 rw [if_pos (by omega)]
 congr 1
 rw [UInt8.toNat_ofNat_of_lt' (by simp [UInt8.size]; omega)]
 omega
theorem kept_cells {W W' : World} {row : Option Nat} {b : Nat} {o : Obj} (hg : W.grownBy W' row) (hr : ∀ r, row = some r → ∃ o : Obj, W.heap[r]? = some o ∧ o.isCells = false) (hb : W.heap[b]? = some o) (ho : o.isCells = true) : W'.heap[b]? = some o := by
 refine (hg.block b (Array.getElem?_eq_some_iff.1 hb).1 fun e => ?_).trans hb
 obtain ⟨o', h1, h2⟩ := hr b e.symm
 rw [hb] at h1
 cases h1
 rw [ho] at h2
 cases h2
theorem builder_own {β : Type} {B b : Nat} (f : β → List Value) : Own (fun s W => Lib.IsBuilder 74 5 B b (f s) W) := by
 intro s W W' row hs hg hr
 have key : ∀ p, Lib.BuilderAt 74 5 B b p (f s) W → Lib.BuilderAt 74 5 B b p (f s) W' := by
  rintro p ⟨hB, v, hb, hown, hne⟩
  refine ⟨hB, v, kept_cells hg hr hb rfl, hown.kept hg ?_, hne⟩
  rcases hown.2 with ⟨rfl, _⟩ | ⟨g, cap, cur, rfl, _, hh, _⟩
  ·exact .inl rfl
  ·refine .inr fun e => ?_
   obtain ⟨o', h1, h2⟩ := hr g (by rw [← e]; rfl)
   rw [hh] at h1
   cases h1
   cases h2
 rcases hs with h | h
 ·exact .inl (key _ h)
 ·exact .inr (key _ h)
theorem shq_cons_step (D : Int) (ml : List Int) (j : Nat) (hj : j < ml.length) : Num.shq D (ml.drop j) = ((((Num.shq D (ml.drop (j + 1))).2 * 4294967296 + ml[j]) / D) :: (Num.shq D (ml.drop (j + 1))).1, ((Num.shq D (ml.drop (j + 1))).2 * 4294967296 + ml[j]) % D) := by
 rw [List.drop_eq_getElem_cons hj]
 rfl
theorem cur_get {cur ml : List Int} {j : Nat} (hl : cur.length = ml.length) (hj : j < ml.length) (ht : cur.take (j + 1) = ml.take (j + 1)) : rdOf 0 cur (j : Int) = ml[j] := by
 have h1 := congrArg (fun l => l[j]?) ht
 simp only [List.getElem?_take] at h1
 rw [if_pos (by omega), if_pos (by omega), List.getElem?_eq_getElem (by omega), List.getElem?_eq_getElem hj] at h1
 simp only [rdOf, Int.toNat_natCast, List.getD_eq_getElem?_getD]
 rw [List.getElem?_eq_getElem (by omega)]
 simpa using h1
theorem cur_take {cur ml : List Int} {j : Nat} (q : Int) (ht : cur.take (j + 1) = ml.take (j + 1)) : (cur.set j q).take j = ml.take j := by
 rw [List.take_set_of_le (Nat.le_refl _)]
 have := congrArg (fun l => l.take j) ht
 simpa [List.take_take] using this
theorem cur_drop {cur : List Int} {j : Nat} (q : Int) (hj : j < cur.length) : (cur.set j q).drop j = q :: cur.drop (j + 1) := by
 rw [List.drop_eq_getElem_cons (by simpa using hj), List.getElem_set_self, List.drop_set_of_lt (by omega)]
theorem pcs_step {V0 : Nat} {ml pl : List Int} {D : List Int} {r : Int} (hok : Num.okW ml) (hn : Num.normed ml) (hne : ml ≠ []) (hD : D = (Num.shq 1000000000 ml).1) (hr : r = (Num.shq 1000000000 ml).2)
  (hp : Num.pcs V0 = pl ++ Num.pcs (Num.valN ml)) (hb : Num.valN ml * 65536 ^ pl.length ≤ V0) :
  Num.okW (Num.trimW D) ∧ Num.valN (Num.trimW D) < Num.valN ml ∧ Num.pcs V0 = (pl ++ [r]) ++ Num.pcs (Num.valN (Num.trimW D)) ∧ Num.valN (Num.trimW D) * 65536 ^ (pl ++ [r]).length ≤ V0 := by
 have hv : Num.valN ml ≠ 0 := fun h => hne (by rw [← hn]; exact (Num.valN_zero hok).1 h)
 obtain ⟨e1, e2⟩ := Num.shq_val (d := 1000000000) (by decide) hok
 have e3 : Num.valN (Num.trimW D) = Num.valN ml / 1000000000 := by rw [Num.trimW_val, hD, e1]; rfl
 refine ⟨by rw [hD]; exact Num.okW_trim (Num.shq_ok (by decide) hok), by rw [e3]; exact Nat.div_lt_self (by omega) (by decide), ?_, ?_⟩
 ·rw [hp, Num.pcs_pos (by omega), e3, hr, e2]
  simp
 ·rw [e3, List.length_append, List.length_singleton, Nat.pow_succ]
  obtain ⟨v, hv2⟩ : ∃ v, v = Num.valN ml := ⟨_, rfl⟩
  rw [← hv2] at hb ⊢
  have h1 : v / 1000000000 * 65536 ≤ v := by omega
  obtain ⟨x, hx⟩ : ∃ x, x = v / 1000000000 := ⟨_, rfl⟩
  rw [← hx] at h1 ⊢
  obtain ⟨y, hy⟩ : ∃ y, y = 65536 ^ pl.length := ⟨_, rfl⟩
  rw [← hy] at hb ⊢
  rw [Nat.mul_comm y, ← Nat.mul_assoc]
  exact Nat.le_trans (Nat.mul_le_mul_right y h1) hb
theorem pl_bound {V0 p v n : Nat} (hv : v ≠ 0) (hb : v * 65536 ^ p ≤ V0) (h0 : V0 < 4294967296 ^ n) : p < 2 * n := by
 have h1 : 65536 ^ p < 65536 ^ (2 * n) := by
  rw [Nat.pow_mul]
  have h2 : 65536 ^ p ≤ v * 65536 ^ p := Nat.le_mul_of_pos_left _ (by omega)
  exact Nat.lt_of_le_of_lt (Nat.le_trans h2 hb) h0
 exact (Nat.pow_lt_pow_iff_right (by decide)).1 h1
set_option maxRecDepth 100000 in
theorem text_any (A0 : Option Addr) (c0 : Nat) (l0 : List Int) (w : World) (hr0 : Kd.C (Kd.int .u32) w A0 l0.length l0) (hc0 : l0.length ≤ c0) (hok : Num.okW l0) (hlen : l0.length ≤ 1000000) :
  Calls Tryz.prog 94 #[.slice A0 l0.length c0] w fun e w' => e = .returned (.string ⟨(Num.textN (Num.valN l0)).toArray⟩) ∧ Below w.heap.size w w' := by
 have HR0 := md_ hr0
 have HC0 := md_ hc0
 have HOK := md_ hok
 have HLEN := md_ hlen
 clear hr0 hc0 hok hlen
 have HN := md_ (norm_pure l0 HLEN.out)
 have HVT := md_ (Num.trimW_val l0)
 by_cases hv0 : Num.trimW l0 = []
 ·have HV := md_ ((Num.valN_zero HOK.out).2 hv0)
  have HB := md_ (Below.refl w.heap.size w)
  go_enter Tryz.func94, Tryz.ntmps94
  go_wp2_with (go_at_call 82; refine (nat_Norm.calls (l0.length + 1) A0 c0 l0 (Num.trimW l0) _ HR0.out HC0.out HN.out).mono ?_; rintro e w1 ⟨v1, rfl, ho, hb⟩; obtain ⟨A1, c1, e1⟩ := Kd.R_slice ho; rw [hv0, List.length_nil] at e1; subst e1; have HB1 := md_ hb; clear ho hb)
  go_ret
  refine ⟨?_, HB1.out⟩
  rw [HV.out]; rfl
 ·have HV : Aside0 (Num.valN l0 ≠ 0) := ⟨fun h => hv0 ((Num.valN_zero HOK.out).1 h)⟩
  have HB := md_ (Below.refl w.heap.size w)
  refine (callsIn_wide (n := 12)).1 ?_
  refine callsIn_of_wp_marks Tryz.func94 rfl trivial ?_ rfl
  simp only [Tryz.ntmps94, List.size_toArray, List.length_cons, List.length_nil, Nat.reduceAdd, Nat.reduceSub, Array.replicate_succ, Array.replicate_zero, List.push_toArray, List.append_toArray, List.nil_append, List.cons_append]
  refine wpIn_wide.2 ?_
  have hpos : ¬ (Num.trimW l0).length = 0 := fun h => hv0 (List.length_eq_zero_iff.1 h)
  have hz0 : (((Num.trimW l0).length : Int) == 0) = false := by simpa using hpos
  have hz1 : decide ((Num.trimW l0).length = 0) = false := decide_eq_false hpos
  go_wp2_with (go_at_call 82; refine (nat_Norm.calls (l0.length + 1) A0 c0 l0 (Num.trimW l0) _ HR0.out HC0.out HN.out).mono ?_; rintro e w1 ⟨v1, rfl, ho, hb⟩; obtain ⟨A1, c1, e1⟩ := Kd.R_slice ho; subst e1; have HO := md_ ho; have HB1 := md_ hb; clear ho hb)
  go_loopg [3, 4] (Num.valN l0) (fun kq v3 v4 w' => ∃ (ml pl : List Int), Aside0 (Num.okW ml) ∧ Aside0 (Num.normed ml) ∧ Aside0 (ml.length ≤ 1000000) ∧ Aside0 (Num.valN ml = kq) ∧ Aside0 (Num.pcs (Num.valN l0) = pl ++ Num.pcs (Num.valN ml)) ∧ Aside0 (Num.valN ml * 65536 ^ pl.length ≤ Num.valN l0) ∧ Aside0 (Kd.R (Kd.int .u32) 119 w' w.heap.size (fun k_ => True ∧ some k_ ≠ v4.ownBlock) v3 ml) ∧ Aside0 (Kd.R (Kd.int .u32) 119 w' w.heap.size (fun k_ => some k_ ≠ v3.ownBlock) v4 pl) ∧ Aside0 (Below w.heap.size w w'))
  case atStart =>
   refine ⟨Num.trimW l0, [], ⟨Num.okW_trim HOK.out⟩, ⟨Num.normed_trim l0⟩, ⟨by have := Num.trimW_length_le l0; have := HLEN.out; omega⟩, ⟨Num.trimW_val l0⟩, ⟨by rw [Num.trimW_val]; simp⟩, ⟨by rw [Num.trimW_val]; simp⟩, ⟨Kd.R_apart_nil HO.out⟩, ⟨Kd.R_nil _ _ _ _ _⟩, HB1⟩
  case round =>
   clear HO HB1 HB HR0 HC0
   obtain ⟨ml, pl, HWM, HNM, HLM, HVM, HPC, HPB, HO, HP, HB⟩ := hrel
   by_cases hml : ml = []
   ·subst hml
    have HPL : Aside0 (pl = Num.pcs (Num.valN l0)) := ⟨by rw [HPC.out]; simp [Num.valN, Num.pcs_zero]⟩
    have hplne : 0 < pl.length := by
     rw [HPL.out, Num.pcs_pos (Nat.pos_of_ne_zero HV.out)]
     simp
    obtain ⟨A3, c3, e3⟩ := Kd.R_slice HO.out
    rw [List.length_nil] at e3
    subst e3
    obtain ⟨g4, c4, e4, gb4, gl4, cl4, HG4⟩ := Kd.R_form HP.out hplne
    subst e4
    have HPC4 : Aside0 (∀ j, j < pl.length → wr.cell? ⟨g4, 0 + j, none⟩ = some (.int .u32 (pl[j]?.getD 0))) := ⟨fun j hj => by
     have h1 := (Kd.R_celln 0 HP.out (j : Int) (by omega) (by omega)).1
     rw [Int.toNat_natCast] at h1
     rw [Nat.zero_add, h1]
     simp [rdOf, List.getD_eq_getElem?_getD]⟩
    have GB4 := md_ gb4
    have GL4 := md_ gl4
    have HCS4 := md_ HG4
    clear gb4 gl4 HG4 HO
    go_wp2_with (go_at_call 126; refine (callsIn_wide.1 (back_in Fence.wide 3 trivial rfl _ _ _ _)).mono ?_; rintro e w' ⟨rfl, rfl⟩)
    have HPLB := md_ (show pl.length ≤ 2 * l0.length from by rw [HPL.out]; exact Num.pcs_len _ _ (by rw [Nat.pow_mul]; exact Num.valN_lt HOK.out))
    have HZ : Aside0 (∀ z ∈ pl, 0 ≤ z ∧ z < 4294967296) := ⟨fun z hz => by rw [HPL.out] at hz; have := Num.pcs_range _ z hz; omega⟩
    obtain ⟨W0, hW0⟩ : ∃ W0 : World, W0 = (wr.alloc (Obj.cells #[Value.pointer none, Value.slice none 0 0] 74)).alloc (Obj.cells #[Value.slice (some ⟨g4, 0, none⟩) pl.length c4] 96) := ⟨_, rfl⟩
    have hBW : Below wr.heap.size wr W0 := by rw [hW0]; exact ((Below.refl _ _).alloc (Nat.le_refl _) _).alloc (by simp) _
    have hBW0 : Below w.heap.size w W0 := by rw [hW0]; exact (HB.out.alloc HB.out.size _).alloc (by simp; have := HB.out.size; omega) _
    have hs0 : W0.heap.size = wr.heap.size + 2 := by rw [hW0]; simp
    have hbb : W0.heap[wr.heap.size]? = some (.cells #[Value.pointer none, Value.slice none 0 0] 74 (0, 0)) := by rw [hW0]; exact heap_alloc2_old wr _ _
    have hbx : W0.heap[wr.heap.size + 1]? = some (.cells #[Value.slice (some ⟨g4, 0, none⟩) pl.length c4] 96 (0, 0)) := by rw [hW0]; exact heap_alloc2_new wr _ _
    have hg4 : W0.heap[g4]? = some (.cells cl4 119 (0, 0)) := (hBW.block g4 GL4.out).trans HCS4.out
    have hc4 : ∀ j, j < pl.length → W0.cell? ⟨g4, 0 + j, none⟩ = some (.int .u32 (pl[j]?.getD 0)) := fun j hj => (hBW.cell (p := ⟨g4, 0 + j, none⟩) GL4.out).trans (HPC4.out j hj)
    have hcb : W0.cell? ⟨wr.heap.size + 1, 0, none⟩ = some (.slice (some ⟨g4, 0, none⟩) pl.length c4) := by rw [Lib.cell_of_heap hbx]; rfl
    have HW0 := md_ hW0
    rw [← hW0]
    clear hW0 HPC4 HCS4
    refine (wpIn_wide (n := 12)).1 ?_
    refine wpIn_rangeFunc_ownG rfl (by omega) (gf := 137) (lb := #[.pointer (some ⟨wr.heap.size + 1, 0, none⟩)]) rfl trivial (enters_of Tryz.func137 (by kernel_rfl) rfl)
     (back_stops Fence.wide 11 trivial rfl (by omega) (wr.heap.size + 1) g4 0 c4 pl HZ.out (by have := HPLB.out; have := HLEN.out; omega) W0 (by omega) (by have := GL4.out; omega) hcb hc4)
     Kp2.trans (fun W l o o' hl h ho _ => Kp2.grown (grownBy_putObj' W l o') (by have := (Array.getElem?_eq_some_iff.1 h).1; omega) (by have := (Array.getElem?_eq_some_iff.1 h).1; have := GL4.out; omega) (fun e => by injection e with e; omega) (fun e => by injection e with e; have := GL4.out; omega)) (Below.refl _ _) (fun _ => rfl)
     (fun pre W => (Lib.IsBuilder 74 5 w.heap.size wr.heap.size (Lib.byteCells ((pre.map (fun x => x.1.2)).flatMap Num.dg9)) W ∧ W.heap[wr.heap.size + 1]? = some (.cells #[Value.slice (some ⟨g4, 0, none⟩) pl.length c4] 96 (0, 0)) ∧ W.heap[g4]? = some (.cells cl4 119 (0, 0))) ∧ Below w.heap.size w W)
     (fun _ _ _ => False)
     (OwnFrom.and (Own.from (fun s A B row hs hg hr => ⟨builder_own (fun pre : List U32P => Lib.byteCells ((pre.map (fun x => x.1.2)).flatMap Num.dg9)) s A B row hs.1 hg hr, kept_cells hg hr hs.2.1 rfl, kept_cells hg hr hs.2.2 rfl⟩) _) (ownFrom_below (Nat.le_refl _) hBW0.size))
     (fun _ _ _ _ _ hs _ _ => hs)
     ⟨⟨.inl ⟨HB.out.size, _, hbb, own_nil _ _ _ _, by simp [Value.ownBlock]⟩, hbx, hg4⟩, hBW0⟩
     (fun x => { tmps := #[.slice A0 l0.length c0, undef, .string ⟨#[]⟩, .slice A3 0 c3, .slice (some ⟨g4, 0, none⟩) pl.length c4, u5, u6, .pointer (some ⟨wr.heap.size, 0, none⟩), undef, .int .u32 x.1.2, undef, .slice A0 l0.length c0, .slice A1 (Num.trimW l0).length c1, .slice A1 (Num.trimW l0).length c1, .int .i64 ((Num.trimW l0).length : Int), .bool false, .slice A3 0 c3, .int .i64 0, .bool false, u19, u20, u21, u22, u23, u24, u25, u26, u27, u28, u29, u30, u31, u32, u33, u34, u35, u36, u37, u38, u39, u40, u41, u42, u43, .slice (some ⟨g4, 0, none⟩) pl.length c4, .func (.func 137) #[] #[.pointer (some ⟨wr.heap.size + 1, 0, none⟩)], .int .i64 x.1.1, .int .u32 x.1.2, undef, undef, undef, undef, undef, undef], defers := [] }) ?assign ?body ?done ?stop
    case assign =>
     intro l x W K hK
     gi_wp2
     exact hK
    case body =>
     rintro l pre x W ⟨⟨hI, hbx', hg4'⟩, hB⟩ hlt
     have hblt : wr.heap.size < W.heap.size := by
      rcases hI with h | h
      ·exact h.lt
      ·exact h.lt
     have hxlt : wr.heap.size + 1 < W.heap.size := (Array.getElem?_eq_some_iff.1 hbx').1
     have h4lt : g4 < W.heap.size := (Array.getElem?_eq_some_iff.1 hg4').1
     have HI := md_ hI
     have HBX := md_ hbx'
     have HG4' := md_ hg4'
     have HBB := md_ hB
     have HLT := md_ hlt
     have HXLT := md_ hxlt
     have H4LT := md_ h4lt
     have HBLT := md_ hblt
     clear hI hbx' hg4' hB hlt hxlt h4lt hblt
     gi_wp2_with (first | (refine ⟨trivial, ?_⟩; gi_at_call 127; refine (CallsIn.inRound l (callsIn_wide.2 (digits_any x.1.2 W x.2.1 x.2.2))).mono ?_; rintro e W1 ⟨rfl, hb1⟩; have HB1 := md_ hb1; clear hb1) | (refine wpListIn_store_row rfl 161 _ _ rfl W1.heap.size (dcells x.1.2 9) rfl rfl 161 _ (heap_alloc_new W1 _) (by kernel_rfl) rfl (by simp [dcells, List.range, List.range.loop, Value.oneCell']) ?_))
     obtain ⟨W2, hW2⟩ : ∃ W2 : World, W2 = ((W1.alloc (Obj.cells #[Value.int .u8 0, Value.int .u8 0, Value.int .u8 0, Value.int .u8 0, Value.int .u8 0, Value.int .u8 0, Value.int .u8 0, Value.int .u8 0, Value.int .u8 0] 161)).setRow W1.heap.size (dcells x.1.2 9)) := ⟨_, rfl⟩
     have hB2 : Below W.heap.size W W2 := by rw [hW2]; exact below_setRow (HB1.out.alloc HB1.out.size _) HB1.out.size _
     have hrow : W2.heap[W1.heap.size]? = some (.cells (dcells x.1.2 9) 161 (0, 0)) := by rw [hW2]; exact setRow_heap _ _ _ _ _ _ (heap_alloc_new W1 _)
     have hne : W1.heap.size ≠ wr.heap.size := by have := HB1.out.size; have := HBLT.out; omega
     have hlenb : (Lib.byteCells ((pre.map (fun x => x.1.2)).flatMap Num.dg9)).length = 9 * pre.length := by
      rw [Lib.byteCells_length, List.length_flatMap]
      rw [List.map_map, List.map_congr_left (g := fun _ => 9) (fun a _ => by simp [Num.dg9])]
      simp [List.map_const', Nat.mul_comm]
     have HW2 := md_ hW2
     rw [← hW2]
     clear hW2
     have hKO : KeepsOthers W W2 := ⟨hB2.size, fun k o hk _ => (hB2.block k (Array.getElem?_eq_some_iff.1 hk).1).trans hk⟩
     refine ⟨trivial, (CallsIn.inRound l (callsIn_wide.2 (builder_write w.heap.size wr.heap.size (Lib.byteCells ((pre.map (fun x => x.1.2)).flatMap Num.dg9)) ⟨W1.heap.size, 0, none⟩ 9 9 (dcells x.1.2 9).toList W2 (builder_below HI.out hB2) (by simp [dcells_size]) ?c1 hne ?c2 ?c3 ?c4))).mono ?_⟩
     case c1 =>
      intro j u hj
      have hadd : (⟨W1.heap.size, 0, none⟩ : Addr).add j = ⟨W1.heap.size, j, none⟩ := by unfold Addr.add; split <;> simp_all
      rw [hadd, Lib.cell_of_heap hrow]
      simpa using hj
     case c2 =>
      intro u hu
      rw [byteCells_dg9 _ x.2.1] at hu
      obtain ⟨b, _, rfl⟩ := List.mem_map.1 hu
      rfl
     case c3 => rw [hlenb]; have := HLT.out; have := HPLB.out; have := HLEN.out; omega
     case c4 => have := HBB.out.size; have := hB2.size; omega
     rintro e W3 ⟨rfl, hbu, hb3, hko3, hk83⟩
     have hbx3 : W3.heap[wr.heap.size + 1]? = some (.cells #[Value.slice (some ⟨g4, 0, none⟩) pl.length c4] 96 (0, 0)) := hk83 _ _ _ _ ((hB2.block _ HXLT.out).trans HBX.out) (by decide) (by omega)
     have hg43 : W3.heap[g4]? = some (.cells cl4 119 (0, 0)) := hk83 _ _ _ _ ((hB2.block _ H4LT.out).trans HG4'.out) (by decide) (by have := GL4.out; omega)
     have HEND := md_ (show KeepsFrom W0.heap.size W W3 ∧ Kp2 (wr.heap.size + 1) g4 W W3 ∧ (Lib.IsBuilder 74 5 w.heap.size wr.heap.size (Lib.byteCells (((pre ++ [x]).map (fun x => x.1.2)).flatMap Num.dg9)) W3 ∧ W3.heap[wr.heap.size + 1]? = some (.cells #[Value.slice (some ⟨g4, 0, none⟩) pl.length c4] 96 (0, 0)) ∧ W3.heap[g4]? = some (.cells cl4 119 (0, 0))) ∧ Below w.heap.size w W3 from
      ⟨(hKO.trans hko3).from _, ⟨hbx3.trans HBX.out.symm, hg43.trans HG4'.out.symm⟩, ⟨.inr (by
       rw [byteCells_dg9 _ x.2.1] at hbu
       have e1 : Lib.byteCells (((pre ++ [x]).map (fun x => x.1.2)).flatMap Num.dg9) = Lib.byteCells ((pre.map (fun x => x.1.2)).flatMap Num.dg9) ++ Lib.byteCells (Num.dg9 x.1.2) := by simp [Lib.byteCells]
       rw [e1]
       exact hbu), hbx3, hg43⟩, (HBB.out.trans (hB2.mono HBB.out.size)).trans hb3⟩)
     clear hbu hb3 hko3 hk83 hbx3 hg43 hrow hlenb hKO
     gi_wp2
     exact HEND.out
    case done =>
     rintro D ys W hD hys ⟨⟨hI, hbx', hg4'⟩, hB⟩ hK
     rw [hys] at hI
     have hl0 : (pl.reverse.flatMap Num.dg9) ≠ [] := by
      intro h
      rw [List.flatMap_eq_nil_iff] at h
      obtain ⟨z, zs, hz⟩ := List.exists_cons_of_length_pos hplne
      have h9 := h z (by rw [hz]; simp)
      simp [Num.dg9, List.range, List.range.loop] at h9
     have hDb : some D ≠ some wr.heap.size := by
      intro e
      injection e with e
      rcases hI with h | h
      ·obtain ⟨_, v, hb, _⟩ := h
       rw [← e, hK] at hb
       cases hb
      ·obtain ⟨_, v, hb, _⟩ := h
       rw [← e, hK] at hb
       cases hb
     have HI := md_ (Lib.IsBuilderF.of hI)
     have HBB := md_ hB
     have HDK := md_ hK
     have HDD := md_ hD
     have HDB := md_ hDb
     have HL0 := md_ hl0
     clear hI hB hK hD hDb hl0 hys hbx' hg4'
     go_wp2_with (first | (go_at_call 42; refine (Tryz.Builder_String_k w.heap.size wr.heap.size _ W HI.out HL0.out).mono ?_; rintro e W4 ⟨rfl, _, hb4, hok4⟩; have HB4 := md_ hb4; have HK4 := md_ (hok4 D _ HDK.out HDB.out (fun c fz h => by cases h)); clear hb4 hok4) | (go_at_call 129; refine (Tryz.strings_TrimLeft_one _ 48 (by decide) _).mono ?_; rintro e W5 ⟨rfl, rfl⟩))
     refine ⟨by simp, .inl ⟨_, _, rfl, run_takeDeferred HK4.out, ?_⟩⟩
     refine ⟨_, results_tmp rfl _ _ _, ?_, ((HBB.out.trans HB4.out).trans (belowK_b (w := w) (Nat.le_refl _) _ D _ _ (by have := HDD.out; have := hBW0.size; omega) HK4.out rfl rfl))⟩
     unfold Num.textN
     rw [if_neg HV.out, ← HPL.out]
     rfl
    case stop =>
     rintro D c pre W _ _ h _
     exact h.elim
   ·have hposm : 0 < ml.length := List.length_pos_iff.2 hml
    obtain ⟨g, c3, e3, gb, gl, cl, HG⟩ := Kd.R_form HO.out hposm
    subst e3
    obtain ⟨A4, c4, e4⟩ := Kd.R_slice HP.out
    subst e4
    have GB := md_ gb
    have GL := md_ gl
    clear gb gl HG
    have hp0 : decide (0 < (ml.length : Int)) = true := decide_eq_true (by omega)
    have hp1 : decide (0 < ml.length) = true := decide_eq_true hposm
    have hml1 : (ml.length : Int) ≤ 1000000 := by have := HLM.out; omega
    have hml2 : 0 < (ml.length : Int) := by omega
    go_wp2
    go_loopg [5, 6] ml.length (fun jq v5 v6 w' => ∃ (cur : List Int) (r : Int), v5 = .int .u32 r ∧ v6 = .int .i64 ((jq : Int) - 1) ∧ Aside0 (jq ≤ ml.length) ∧ Aside0 (cur.length = ml.length) ∧ Aside0 (cur.take jq = ml.take jq) ∧ Aside0 (cur.drop jq = (Num.shq 1000000000 (ml.drop jq)).1) ∧ Aside0 (r = (Num.shq 1000000000 (ml.drop jq)).2) ∧ Aside0 (Kd.R (Kd.int .u32) 119 w' w.heap.size (fun k_ => True ∧ some k_ ≠ (Value.slice A4 pl.length c4).ownBlock) (.slice (some ⟨g, 0, none⟩) ml.length c3) cur) ∧ Aside0 (Kd.R (Kd.int .u32) 119 w' w.heap.size (fun k_ => some k_ ≠ (Value.slice (some ⟨g, 0, none⟩) ml.length c3).ownBlock) (.slice A4 pl.length c4) pl) ∧ Aside0 (Below w.heap.size w w'))
    case atStart => exact ⟨ml, 0, rfl, rfl, ⟨Nat.le_refl _⟩, ⟨rfl⟩, ⟨rfl⟩, ⟨by simp [Num.shq]⟩, ⟨by simp [Num.shq]⟩, HO, HP, HB⟩
    case round =>
     clear HO HP HB
     obtain ⟨cur, r, rfl, rfl, HJ, HCL, HT, HD, HRR, HO, HP, HB⟩ := hrel
     have hr := Num.shq_rest (d := 1000000000) (by decide) (ml.drop gk)
     rw [← HRR.out] at hr
     cases gk with
     | zero =>
      have e0 : (((0 : Nat) : Int) - 1) = -1 := by decide
      rw [e0]
      have hD : cur = (Num.shq 1000000000 ml).1 := by simpa using HD.out
      have hR : r = (Num.shq 1000000000 ml).2 := by simpa using HRR.out
      have HS := md_ (pcs_step HWM.out HNM.out hml hD hR HPC.out HPB.out)
      have HPLB := md_ (pl_bound (show Num.valN ml ≠ 0 from fun h => hml (by rw [← HNM.out]; exact (Num.valN_zero HWM.out).1 h)) HPB.out (Num.valN_lt HOK.out))
      obtain ⟨hr0, hr1⟩ := hr
      clear hD hR HD HRR HT
      have hgl : g < wr.heap.size := Kd.R_lt HO.out g rfl
      have HGL := md_ hgl
      clear hgl
      go_wp2_with (first | ((with_reducible refine gate_builtin (b := .append) (xs := #[.tmp 38, .tmp 40]) rfl ?_); at_builtin; refine Kd.R_append (Kd.int .u32) (w0 := w) w.heap.size rfl (.tmp 38) (.tmp 40) 96 119 (.int .u32 0) 4 rfl Tryz.underlying96 info119 rfl (by decide) (by omega) (.slice A4 pl.length c4) pl r [.int .u32 r] (fun k_ => some k_ ≠ (Value.slice (some ⟨g, 0, none⟩) ml.length c3).ownBlock) (fun _ => False) rfl rfl ?aP (fun _ hk => hk.elim) ?aF HP.out HB.out ?aS ?aL ?_; (case aP => exact rfl); (case aF => intro k_ h_ e_; have h2_ := HGL.out; simp [Value.ownBlock] at e_; omega); (case aS => exact HB.out.size); (case aL => have h1_ := HPLB.out; have h2_ := HLEN.out; omega); intro v5 w5 ho hb hg hat; have HO5 := md_ (Kd.R_after HO.out hg hat); have HB5 := md_ hb; obtain ⟨A5, c5, e5⟩ := Kd.R_slice ho; subst e5; have HP5 := md_ ho; clear ho hb hg hat HO HP HB) | (go_at_call 86; refine (trim_at' (some ⟨g, 0, none⟩) c3 ml.length cur _ HCL.out (Kd.R_reads' HO5.out).2.2 (by have h1_ := (Kd.R_reads' HO5.out).2.1; have h2_ := HCL.out; omega)).mono ?_; rintro e w6 ⟨rfl, rfl⟩))
      have HTL := md_ (Num.trimW_length_le cur)
      have HT5 := md_ (Kd.R_take (m := (Num.trimW cur).length) HO5.out HTL.out)
      rw [← Num.trimW_take, show (pl ++ [r]).length = pl.length + 1 from by simp] at HT5
      rw [show (pl ++ [r]).length = pl.length + 1 from by simp] at HP5
      go_roundg (Num.valN (Num.trimW cur))
      case measure => have h1_ := HS.out.2.1; have h2_ := HVM.out; omega
      case rel => exact ⟨Num.trimW cur, pl ++ [r], ⟨HS.out.1⟩, ⟨Num.normed_trim cur⟩, ⟨by have h1_ := HTL.out; have h2_ := HCL.out; have h3_ := HLM.out; omega⟩, ⟨rfl⟩, ⟨HS.out.2.2.1⟩, ⟨HS.out.2.2.2⟩, HT5, ⟨HP5.out⟩, HB5⟩
     | succ j =>
      have hj := HJ.out
      have hjl : (j : Int) < (ml.length : Int) := by omega
      have e0 : (((j + 1 : Nat) : Int) - 1) = (j : Int) := by omega
      rw [e0]
      obtain ⟨x, hx⟩ : ∃ x, x = ml[j] := ⟨_, rfl⟩
      have hxr : 0 ≤ x ∧ x < 4294967296 := by rw [hx]; exact HWM.out _ (List.getElem_mem _)
      obtain ⟨hxr0, hxr1⟩ := hxr
      obtain ⟨hr0, hr1⟩ := hr
      have hcurx := cur_get HCL.out (by omega) HT.out
      rw [← hx] at hcurx
      obtain ⟨hcell, hfro⟩ := Kd.R_celln 0 HO.out (j : Int) (by omega) (by omega)
      rw [Int.toNat_natCast] at hcell hfro
      rw [hcurx] at hcell
      have HX := md_ hx
      clear hx hcurx
      obtain ⟨q, hq⟩ : ∃ q, q = (r * 4294967296 + x) / 1000000000 := ⟨_, rfl⟩
      obtain ⟨r2, hr2⟩ : ∃ r2, r2 = (r * 4294967296 + x) % 1000000000 := ⟨_, rfl⟩
      have HQ := md_ hq
      have HR2 := md_ hr2
      have HF : Aside0 (bits_Div32.f r x 1000000000 = some (q, r2)) := ⟨by unfold bits_Div32.f; rw [if_pos ⟨hr0, by omega, hxr0, hxr1, by decide⟩, ← hq, ← hr2]⟩
      clear hq hr2
      have hjb : (j : Int) ≤ 1000000 := by omega
      go_wp2_with (go_at_call 125; refine (bits_Div32.calls r x 1000000000 q r2 _ HF.out).mono ?_; rintro e w2 ⟨rfl, ⟨nd, hnd⟩⟩; have HO2 := md_ (show Kd.R (Kd.int .u32) 119 w2 w.heap.size (fun k_ => True ∧ some k_ ≠ (Value.slice A4 pl.length c4).ownBlock) (.slice (some ⟨g, 0, none⟩) ml.length c3) cur from by rw [hnd]; exact Kd.R_drewN HO.out nd); have HP2 := md_ (show Kd.R (Kd.int .u32) 119 w2 w.heap.size (fun k_ => some k_ ≠ (Value.slice (some ⟨g, 0, none⟩) ml.length c3).ownBlock) (.slice A4 pl.length c4) pl from by rw [hnd]; exact Kd.R_drewN HP.out nd); have HB2 := md_ (show Below w.heap.size w w2 from by rw [hnd]; exact pw_below_drewN HB.out nd); have hcell2 : w2.cell? ⟨g, j, none⟩ = some (.int .u32 x) := (by rw [hnd]; exact hcell); have hfro2 : w2.frozen? ⟨g, j, none⟩ = false := (by rw [hnd]; exact hfro); clear hnd hcell hfro HO HP HB)
      have HPUT := md_ (Kd.R_putg HO2.out (j : Int) q)
      rw [Int.toNat_natCast] at HPUT
      go_roundg j
      case measure => omega
      case rel =>
       refine ⟨cur.set j q, r2, rfl, by first | rfl | simp, ⟨by omega⟩, ⟨by rw [List.length_set]; exact HCL.out⟩, ⟨?_⟩, ⟨?_⟩, ⟨?_⟩, ⟨HPUT.out.1⟩, ⟨Kd.R_grown HP2.out HPUT.out.2 (fun k_ h_ => h_)⟩, ⟨below_set HB2.out GB.out⟩⟩
       ·exact cur_take q HT.out
       ·rw [cur_drop (cur := cur) (j := j) q (by have h1_ := HCL.out; have h2_ := HJ.out; omega), HD.out, shq_cons_step 1000000000 ml j (by have h2_ := HJ.out; omega), HQ.out, HX.out, HRR.out]
       ·rw [shq_cons_step 1000000000 ml j (by have h2_ := HJ.out; omega), HR2.out, HX.out, HRR.out]
end
def nat_Text.f (l0 : List Int) : Option ByteArray := if (l0.all fun x => decide (0 ≤ x) && decide (x < 4294967296)) = true ∧ l0.length ≤ 1000000 then some ⟨(Num.textN (Num.valN l0)).toArray⟩ else none
theorem nat_Text.calls (A0 : Option Addr) (c0 : Nat) (l0 : List Int) (r : ByteArray) (w : World) (hr0 : Kd.C (Kd.int .u32) w A0 l0.length l0) (hc0 : l0.length ≤ c0) (h : nat_Text.f l0 = some r) :
  Calls Tryz.prog 94 #[.slice A0 l0.length c0] w fun e w' => e = .returned (.string r) ∧ Below w.heap.size w w' := by
 unfold nat_Text.f at h
 by_cases hc : (l0.all fun x => decide (0 ≤ x) && decide (x < 4294967296)) = true ∧ l0.length ≤ 1000000
 ·rw [if_pos hc] at h
  obtain rfl := Option.some.inj h
  refine text_any A0 c0 l0 w hr0 hc0 (fun x hx => ?_) hc.2
  have := List.all_eq_true.1 hc.1 x hx
  simpa using this
 ·rw [if_neg hc] at h
  exact absurd h (by simp)
end Go.Proofs.YtneepokiioefgaaGreatDoor.PNat
