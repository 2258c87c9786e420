/- Pools of definitions: the methods of tokens.Pool, walked. -/
import Derived.Test.YtneepokiioefgaaGreatDoorToks
import Derived.Test.YtneepokiioefgaaGreatDoorWMore
import Derived.Test.YtneepokiioefgaaGreatDoorWZeros
import Derived.Test.YtneepokiioefgaaGreatDoorWKept
import Derived.Tactics
import Derived.Tactics2
import Derived.WalkKit
import Derived.WalkSpells
import Derived.StillTactics
import Derived.OwnWalk
import Derived.Laws.Pointers
import Derived.Deep.QuietTactic
import Derived.BigQuiet
import Derived.Deep.RegionHeld3
import Derived.Deep.AppendLies
import Derived.Lib.SliceRun
import Derived.KernelRfl
import Derived.Outline
namespace Go.Proofs.YtneepokiioefgaaGreatDoor.Pools
open Go.RowKit Go.Toks Go.Proofs.YtneepokiioefgaaGreatDoorW.PrintWords Go.Proofs.YtneepokiioefgaaGreatDoorW.PrintLast Go.Proofs.YtneepokiioefgaaGreatDoorW.PrintMore
set_option linter.unusedVariables false
set_option linter.unusedSimpArgs false

theorem info63 : (Tryz.prog.info? 63).map (fun i => (i.zero, i.size, i.bytes)) = some (some (.slice none 0 0), 1, 24) := by kernel_rfl
theorem info23 : (Tryz.prog.info? 23).map (fun i => (i.zero, i.size, i.bytes)) = some (some (.agg #[.int .i64 0, .int .i64 0, .int .i64 0]), 3, 24) := by kernel_rfl
/-- a token's cells -/
def tk : Kd Tok := Kd.pair (Kd.int .i64) (Kd.pair (Kd.int .i64) (Kd.int .i64))
/-- a row of tokens, by its slice -/
def rk : Kd (List Tok) := Kd.slice 23 tk
/-- A pool: block g (of type T) holds the row of definitions and the count; no two definitions share memory; all blocks are among ok. -/
structure PoolAt (T : Nat) (w : World) (base : Nat) (ok : Nat → Prop) (g : Nat) (L : List (List Tok)) : Prop where
  mk ::
  fit : Fit L
  okg : ok g
  low : base ≤ g
  at_ : ∃ A c, w.heap[g]? = some (.cells #[.slice A L.length c, .int .i64 (cnt L)] T (0, 0)) ∧ Kd.S rk 63 w base (fun k => ok k ∧ k ≠ g) (.slice A L.length c) L

theorem is_any (T : Nat) (w : World) (base : Nat) (ok : Nat → Prop) (g : Nat) (L : List (List Tok)) (d : Int) (H : PoolAt T w base ok g L) :
    Calls Tryz.prog 30 #[.pointer (some ⟨g, 0, none⟩), .int .i64 d] w fun e w' => e = .returned (.bool (isD L d)) ∧ w = w' := by
  obtain ⟨hf, -, -, A, c, hb, -⟩ := H
  have hc0 : w.cell? ⟨g, 0, none⟩ = some (.slice A L.length c) := by rw [blk_cell hb]; rfl
  clear hb
  by_cases h1 : 1 ≤ d
  · by_cases h2 : d ≤ (L.length : Int)
    · have HE := Aside0.mk (isD_true h1 h2)
      go_enter Tryz.func30, Tryz.ntmps30
      go_wp2
      go_ret
      exact ⟨by rw [HE.out]; rfl, rfl⟩
    · have HE := Aside0.mk (isD_hi h2)
      go_enter Tryz.func30, Tryz.ntmps30
      go_wp2
      go_ret
      exact ⟨by rw [HE.out]; rfl, rfl⟩
  · have HE := Aside0.mk (isD_lo (L := L) h1)
    go_enter Tryz.func30, Tryz.ntmps30
    go_wp2
    go_ret
    exact ⟨by rw [HE.out]; rfl, rfl⟩

theorem defs_any (w : World) (base : Nat) (ok : Nat → Prop) (g : Nat) (L : List (List Tok)) (H : PoolAt 49 w base ok g L) :
    Calls Tryz.prog 18 #[.pointer (some ⟨g, 0, none⟩)] w fun e w' => e = .returned (.int .i64 L.length) ∧ w = w' := by
  obtain ⟨hf, -, -, A, c, hb, -⟩ := H
  have hc0 : w.cell? ⟨g, 0, none⟩ = some (.slice A L.length c) := by rw [blk_cell hb]; rfl
  clear hb
  go_enter Tryz.func18, Tryz.ntmps18
  go_wp2
  go_ret
  exact ⟨rfl, rfl⟩

/-- definition d's cell, and its row -/
theorem PoolAt.row_at {T : Nat} {w : World} {base : Nat} {ok : Nat → Prop} {g : Nat} {L : List (List Tok)} {d : Int} (H : PoolAt T w base ok g L) (h1 : 1 ≤ d) (h2 : d ≤ (L.length : Int)) :
    ∃ gd c A' c', w.heap[g]? = some (.cells #[.slice (some ⟨gd, 0, none⟩) L.length c, .int .i64 (cnt L)] T (0, 0)) ∧ w.cell? ⟨gd, d.toNat - 1, none⟩ = some (.slice A' (row L d).length c') ∧
      w.frozen? ⟨gd, d.toNat - 1, none⟩ = false ∧ Kd.R tk 23 w base (fun _ => True) (.slice A' (row L d).length c') (row L d) := by
  obtain ⟨hf, -, -, A, c, hb, hS⟩ := H
  obtain ⟨gd, cap, he, -, -, -⟩ := Kd.S_form hS (by omega)
  injection he with e1 e2 e3
  subst e1
  obtain ⟨oki, cs, hcl, hM, hcc, hfr, hoki, hH⟩ := Kd.S_elem hS [] (d - 1) (by omega) (by omega)
  obtain ⟨v, rfl, hR⟩ := hM
  obtain ⟨A', c', rfl⟩ := Kd.R_slice hR
  have h3 := hcc 0 _ rfl
  have h4 := hfr 0
  simp only [show rk.sz = 1 from rfl, Nat.mul_one, Nat.add_zero] at h3 h4
  rw [show (d - 1).toNat = d.toNat - 1 by omega] at h3 h4 hR
  exact ⟨gd, c, A', c', hb, h3, h4, Kd.R_mono hR (fun _ _ => trivial)⟩

theorem len_any (w : World) (base : Nat) (ok : Nat → Prop) (g : Nat) (L : List (List Tok)) (d : Int) (H : PoolAt 49 w base ok g L) :
    Calls Tryz.prog 17 #[.pointer (some ⟨g, 0, none⟩), .int .i64 d] w fun e w' => e = .returned (.int .i64 (lenD L d)) ∧ w = w' := by
  have HI := is_any 49 w base ok g L d H
  by_cases hd : isD L d = true
  · obtain ⟨h1, h2⟩ := isD_iff.1 hd
    obtain ⟨gd, c, A', c', hb, hc, -, -⟩ := H.row_at h1 h2
    have hc0 : w.cell? ⟨g, 0, none⟩ = some (.slice (some ⟨gd, 0, none⟩) L.length c) := by rw [blk_cell hb]; rfl
    have HE := Aside0.mk (show lenD L d = (row L d).length by unfold lenD; rw [if_pos hd])
    have hf := H.fit.defs
    have h3 : d - 1 < (L.length : Int) := by omega
    have h4 : 0 ≤ d - 1 := by omega
    rw [hd] at HI
    clear hb hd H
    go_enter Tryz.func17, Tryz.ntmps17
    go_wp2_with (go_at_call 30; refine HI.mono ?_; rintro e w' ⟨rfl, rfl⟩)
    go_ret
    exact ⟨by rw [HE.out]; rfl, rfl⟩
  · have hd := Bool.eq_false_iff.mpr hd
    have HE := Aside0.mk (show lenD L d = 0 by unfold lenD; rw [hd]; rfl)
    rw [hd] at HI
    clear hd H
    go_enter Tryz.func17, Tryz.ntmps17
    go_wp2_with (go_at_call 30; refine HI.mono ?_; rintro e w' ⟨rfl, rfl⟩)
    go_ret
    exact ⟨by rw [HE.out]; rfl, rfl⟩

theorem ris_any (T : Nat) (w : World) (base : Nat) (ok : Nat → Prop) (g : Nat) (L : List (List Tok)) (d : Int) (H : PoolAt T w base ok g L) :
    Calls Tryz.prog 48 #[.pointer (some ⟨g, 0, none⟩), .int .i64 d] w fun e w' => e = .returned (.bool (isD L d)) ∧ w = w' := by
  obtain ⟨hf, -, -, A, c, hb, -⟩ := H
  have hc0 : w.cell? ⟨g, 0, none⟩ = some (.slice A L.length c) := by rw [blk_cell hb]; rfl
  clear hb
  by_cases h1 : 1 ≤ d
  · by_cases h2 : d ≤ (L.length : Int)
    · have HE := Aside0.mk (isD_true h1 h2)
      go_enter Tryz.func48, Tryz.ntmps48
      go_wp2
      go_ret
      exact ⟨by rw [HE.out]; rfl, rfl⟩
    · have HE := Aside0.mk (isD_hi h2)
      go_enter Tryz.func48, Tryz.ntmps48
      go_wp2
      go_ret
      exact ⟨by rw [HE.out]; rfl, rfl⟩
  · have HE := Aside0.mk (isD_lo (L := L) h1)
    go_enter Tryz.func48, Tryz.ntmps48
    go_wp2
    go_ret
    exact ⟨by rw [HE.out]; rfl, rfl⟩

end Go.Proofs.YtneepokiioefgaaGreatDoor.Pools
