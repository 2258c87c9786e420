/- The law NatProducts answers true at every input, within its row's conditions. This is part 2 of 8: what the session's printing program wrote for the functions reached, and the session's own lemmas. -/
import Derived.Laws.CopyOwn
import Derived.Lib.Builder
import Derived.LoopIn
import Derived.LoopNIn
import Derived.OwnWalkIn
import Derived.RangeFuncBound
import Derived.RangeFuncBox
import Derived.RangeFuncCalls
import Derived.RangeFuncLeaves
import Derived.RangeFuncNested
import Derived.Shelf.Abstract
import Derived.Shelf.Strings.Builder1
import Derived.Shelf.Strings.BuilderK
import Derived.Shelf.Strings.Trim
import Derived.TacticsInMore
import Derived.Test.YtkihjfpfocnneaaDoorProducts1
namespace Go.Proofs.YtkihjfpfocnneaaDoor.PNat
open Go.RowKit Go.Proofs.YtkihjfpfocnneaaDoorW.PrintWords Go.Proofs.YtkihjfpfocnneaaDoorW.PrintLast Go.Proofs.YtkihjfpfocnneaaDoorW.PrintMore
attribute [local go_sem] max2_int min2_int max_two min_two max_three min_three max_four min_four   -- for this text's walks alone
set_option linter.unusedVariables false
set_option linter.unusedSimpArgs false

/-! ### nat_Text: function 13 -/
-- IMPORT Derived.Test.YtkihjfpfocnneaaDoorShelf
-- IMPORT Derived.Lib.Builder
-- IMPORT Derived.Laws.CopyOwn
-- IMPORT Derived.RangeFuncNested
-- IMPORT Derived.RangeFuncBox
-- IMPORT Derived.RangeFuncLeaves
-- IMPORT Derived.RangeFuncBound
-- IMPORT Derived.RangeFuncCalls
-- IMPORT Derived.Shelf.Abstract
-- IMPORT Derived.OwnWalkIn
-- IMPORT Derived.TacticsInMore
-- IMPORT Derived.LoopNIn
-- IMPORT Derived.LoopIn
-- IMPORT Derived.Shelf.Strings.Builder1
-- IMPORT Derived.Shelf.Strings.Trim
-- IMPORT Derived.Shelf.Strings.BuilderK
section
open Go.Shelf
attribute [local go_sem] Oper.semAt_some
set_option maxRecDepth 100000 in
set_option maxHeartbeats 1000000 in
/-- trim, told outright: the slice cut at its last word that is not 0, in the same memory -/
theorem trim_at (A0 : Option Addr) (c0 : Nat) (l0 : List Int) (w : World) (hr0 : Kd.C (Kd.int .u32) w A0 l0.length l0) (hc0 : l0.length ≤ c0) :
    Calls Tryd.prog 35 #[.slice A0 l0.length c0] w fun e w' => e = .returned (.slice A0 (Num.trimW l0).length c0) ∧ w = w' := by
  have HR := Aside0.mk hr0
  have HC := Aside0.mk hc0
  clear hr0 hc0
  obtain ⟨i0, hi0, _, hsz, _⟩ := info_parts info38
  go_enter Tryd.func35, Tryd.ntmps35
  go_wp2
  go_loopg [0] l0.length (fun kq v0 w' => ∃ m : Nat, v0 = .slice A0 m c0 ∧ Aside0 (m ≤ l0.length) ∧ Aside0 (m = kq) ∧ Aside0 (Num.trimW (l0.take m) = Num.trimW l0) ∧ w = w')
  case atStart => exact ⟨l0.length, rfl, ⟨Nat.le_refl _⟩, ⟨rfl⟩, ⟨by rw [List.take_length]⟩, rfl⟩
  case round =>
    obtain ⟨m, rfl, HM, HQ, HT, rfl⟩ := hrel
    by_cases h0 : 0 < m
    · obtain ⟨j, rfl⟩ : ∃ j, m = j + 1 := ⟨m - 1, by omega⟩
      obtain ⟨kq, rfl⟩ : ∃ kq, gk = kq + 1 := ⟨j, HQ.out.symm⟩
      have h1 : decide (0 < ((j + 1 : Nat) : Int)) = true := decide_eq_true (by omega)
      have h2 : decide (0 < j + 1) = true := decide_eq_true (by omega)
      have hjb : (j : Int) + 1 ≤ 9223372036854775807 := by have := HM.out; have := HR.out.2.1; omega
      obtain ⟨ad, e1, hx⟩ := Kd.at_int HR.out (j : Int) (by omega) (by have := HM.out; omega)
      subst e1
      rw [Int.toNat_natCast] at hx
      have hj : (j : Int) < ((j + 1 : Nat) : Int) := by omega
      by_cases hz : rd l0 (j : Int) = 0
      · have hz1 : (rd l0 (j : Int) == 0) = true := beq_iff_eq.mpr hz
        have hcut := cut_to (P := Tryd.prog) 23 38 .i64 Tryd.underlying23 hi0 (some ad) (j + 1) c0 (j : Int) (by omega) (by omega) (by have := HM.out; have := HC.out; omega)
        rw [Int.toNat_natCast] at hcut
        go_wp2
        go_roundg kq
        case measure => omega
        case rel =>
          exact ⟨j, rfl, ⟨by have := HM.out; omega⟩, ⟨by have := HQ.out; omega⟩, ⟨by
            rw [← HT.out, List.take_succ_eq_append_getElem (by have := HM.out; omega)]
            have e2 : l0[j]'(by have := HM.out; omega) = 0 := by
              have h3 := hz
              simp only [rd, Int.toNat_natCast] at h3
              rw [List.getD_eq_getElem?_getD, List.getElem?_eq_getElem (by have := HM.out; omega)] at h3
              exact h3
            rw [e2, Num.trimW_snoc_zero]⟩, rfl⟩
      · have hz1 : (rd l0 (j : Int) == 0) = false := beq_eq_false_iff_ne.mpr hz
        go_wp2
        go_ret
        refine ⟨?_, rfl⟩
        have e2 : l0[j]'(by have := HM.out; omega) ≠ 0 := by
          intro h4
          apply hz
          simp only [rd, Int.toNat_natCast]
          rw [List.getD_eq_getElem?_getD, List.getElem?_eq_getElem (by have := HM.out; omega)]
          exact h4
        have e3 : (Num.trimW l0).length = j + 1 := by
          rw [← HT.out, List.take_succ_eq_append_getElem (by have := HM.out; omega), Num.trimW_snoc_ne _ e2]
          simp
          have := HM.out; omega
        rw [e3]; rfl
    · obtain rfl : m = 0 := by omega
      go_wp2
      go_ret
      refine ⟨?_, rfl⟩
      have e3 : (Num.trimW l0).length = 0 := by rw [← HT.out]; simp [Num.trimW]
      rw [e3]; rfl
theorem trim_at' (A0 : Option Addr) (c0 n : Nat) (l0 : List Int) (w : World) (hn : l0.length = n) (hr0 : Kd.C (Kd.int .u32) w A0 l0.length l0) (hc0 : l0.length ≤ c0) :
    Calls Tryd.prog 35 #[.slice A0 n c0] w fun e w' => e = .returned (.slice A0 (Num.trimW l0).length c0) ∧ w = w' := by
  subst hn
  exact trim_at A0 c0 l0 w hr0 hc0
/-- the nine digits of a piece, as far as they have been told -/
def dcells (n : Int) (k : Nat) : Array Value := ((List.range 9).map fun j => Value.int .u8 (if 9 ≤ j + k then 48 + n / 10 ^ (8 - j) % 10 else 0)).toArray
theorem dcells_size (n : Int) (k : Nat) : (dcells n k).size = 9 := by simp [dcells]
theorem dcells_get (n : Int) (k j : Nat) (hj : j < 9) : (dcells n k)[j]? = some (.int .u8 (if 9 ≤ j + k then 48 + n / 10 ^ (8 - j) % 10 else 0)) := by
  simp [dcells, hj]
theorem dcells_step (n : Int) (k : Nat) (hk : k < 9) : (dcells n k).setIfInBounds (8 - k) (.int .u8 (48 + n / 10 ^ k % 10)) = dcells n (k + 1) := by
  apply Array.ext_getElem?
  intro j
  rw [Array.getElem?_setIfInBounds]
  by_cases hj : j < 9
  · rw [dcells_get n (k + 1) j hj]
    by_cases e : 8 - k = j
    · subst e
      rw [if_pos rfl, if_pos (by rw [dcells_size]; omega), if_pos (by omega), show 8 - (8 - k) = k by omega]
    · rw [if_neg e, dcells_get n k j hj]
      by_cases h1 : 9 ≤ j + k
      · rw [if_pos h1, if_pos (by omega)]
      · rw [if_neg h1, if_neg (by omega)]
  · rw [if_neg (by omega), Array.getElem?_eq_none (by rw [dcells_size]; omega), Array.getElem?_eq_none (by rw [dcells_size]; omega)]
theorem dcells_zero (n : Int) : dcells n 0 = #[.int .u8 0, .int .u8 0, .int .u8 0, .int .u8 0, .int .u8 0, .int .u8 0, .int .u8 0, .int .u8 0, .int .u8 0] := by
  simp [dcells, List.range, List.range.loop]
theorem div_step (n : Int) (k : Nat) (h0 : 0 ≤ n) : n / 10 ^ k / 10 = n / 10 ^ (k + 1) := by
  rw [Int.ediv_ediv_of_nonneg (Int.pow_nonneg (by decide)), Int.pow_succ]
set_option maxRecDepth 100000 in
set_option maxHeartbeats 1000000 in
theorem digits_any (n : Int) (w : World) (h0 : 0 ≤ n) (h1 : n < 4294967296) :
    Calls Tryd.prog 37 #[.int .u32 n] w fun e w' => e = .returned (.agg (dcells n 9)) ∧ Below w.heap.size w w' := by
  go_enter Tryd.func37, Tryd.ntmps37
  go_wp2
  go_loopw [0, 5] (fun v0 v5 wr => ∃ k : Nat, v0 = .int .u32 (n / 10 ^ k) ∧ v5 = .int .i64 k ∧ Aside0 (k ≤ 9) ∧ Aside0 (wr.heap[w.heap.size + 1]? = some (.cells (dcells n k) 59 (0, 0))) ∧ Aside0 (wr.heap[w.heap.size]? = some (.cells (dcells n 0) 59 (0, 0))) ∧ Aside0 (Below w.heap.size w wr)) (fun _ i _ => 9 - (intOf i).toNat)
  case atStart => exact ⟨0, by simp, rfl, ⟨by omega⟩, ⟨by rw [dcells_zero]; exact heap_alloc2_new w _ _⟩, ⟨by rw [dcells_zero]; exact heap_alloc2_old w _ _⟩, ⟨((Below.refl _ _).alloc (Nat.le_refl _) _).alloc (by simp) _⟩⟩
  case round =>
    obtain ⟨k, rfl, rfl, HK, HC, HZ, HB⟩ := hrel
    have hsz : w.heap.size + 1 < wr.heap.size := by
      rcases Nat.lt_or_ge (w.heap.size + 1) wr.heap.size with h | h
      · exact h
      · have h2 := HC.out; rw [Array.getElem?_eq_none h] at h2; exact absurd h2 (by simp)
    by_cases hk : k < 9
    · have hd0 : 0 ≤ n / 10 ^ k := Int.ediv_nonneg h0 (Int.pow_nonneg (by decide))
      have hd1 : n / 10 ^ k < 4294967296 := Int.lt_of_le_of_lt (Int.ediv_le_self _ h0) h1
      obtain ⟨q, hq⟩ : ∃ q, q = n / 10 ^ k := ⟨_, rfl⟩
      have HQ := Aside0.mk hq
      rw [← hq] at hd0 hd1 ⊢
      clear hq
      have hcell : wr.cell? ⟨w.heap.size + 1, 8 - k, none⟩ = some (.int .u8 (if 9 ≤ (8 - k) + k then 48 + n / 10 ^ (8 - (8 - k)) % 10 else 0)) := by
        rw [Lib.cell_of_heap HC.out]; exact dcells_get n k (8 - k) (by omega)
      rw [if_neg (by omega)] at hcell
      have hfr : wr.frozen? ⟨w.heap.size + 1, 8 - k, none⟩ = false := Lib.frozen_of_heap HC.out _
      go_wp2
      go_roundw
      case rel =>
        refine ⟨k + 1, ?_, by first | rfl | (go_num; done) | simp, ⟨by omega⟩, ⟨?_⟩, ⟨?_⟩, ⟨(HB.out).setCell (p := ⟨w.heap.size + 1, _, none⟩) (by simp) _⟩⟩
        · rw [HQ.out, div_step n k h0]
        · rw [heap_setCell_same wr (w.heap.size + 1) (8 - k) _ _ _ HC.out, HQ.out, dcells_step n k hk]
        · rw [heap_setCell_other wr _ _ _ (by simp)]; exact HZ.out
      case measure => simp [intOf]; omega
    · obtain rfl : k = 9 := by have := HK.out; omega
      have hlt0 : decide (((9 : Nat) : Int) < 9) = false := by decide
      go_wp2_with (first | (refine wpList_load_row rfl 59 _ rfl (w.heap.size + 1) rfl 59 _ (0, 0) _ HC.out Tryd.underlying59 rfl (by kernel_rfl) ?_) | (refine wpList_store_row rfl 59 _ _ rfl w.heap.size (dcells n 9) rfl rfl 59 _ HZ.out (by kernel_rfl) rfl (by simp [dcells, List.range, List.range.loop, Value.oneCell']) ?_))
      refine bodyPost_ret (v := .agg (dcells n 9)) (results_cell_row rfl _ _ w.heap.size 59 _ (0, 0) _ rfl (setRow_heap wr w.heap.size _ _ _ _ HZ.out) Tryd.underlying59 rfl (by kernel_rfl)) rfl ⟨rfl, below_setRow HB.out (Nat.le_refl _) _⟩
set_option maxHeartbeats 1000000 in
set_option maxRecDepth 100000 in
theorem copyCheck_used (b : Nat) (w : World) (h0 : w.cell? ⟨b, 0, none⟩ = some (.pointer (some ⟨b, 0, none⟩))) :
    Calls Tryd.prog 55 #[.pointer (some ⟨b, 0, none⟩)] w fun e w' => e = .returned (.tuple #[]) ∧ w = w' := by
  obtain ⟨j, hj, _⟩ := Option.map_eq_some_iff.1 (show (Tryd.prog.info? 55).map (·.size) = some 2 from by kernel_rfl)
  go_enter Tryd.func55, Tryd.ntmps55
  go_wp2
  rw [Lib.run_neq_ptr_same w _ Tryd.underlying52 hj]
  go_wp2
  go_end0
  exact ⟨rfl, rfl⟩
set_option maxHeartbeats 1000000 in
set_option maxRecDepth 100000 in
theorem copyCheck_fresh (b : Nat) (w : World) (h0 : w.cell? ⟨b, 0, none⟩ = some (.pointer none)) (hsh : w.shape? b = some (55, 2)) (hfz : w.frozen? ⟨b, 0, none⟩ = false) :
    Calls Tryd.prog 55 #[.pointer (some ⟨b, 0, none⟩)] w fun e w' => e = .returned (.tuple #[]) ∧ w.setCell ⟨b, 0, none⟩ (.pointer (some ⟨b, 0, none⟩)) = w' := by
  obtain ⟨j, hj, hjs⟩ := Option.map_eq_some_iff.1 (show (Tryd.prog.info? 55).map (·.size) = some 2 from by kernel_rfl)
  go_enter Tryd.func55, Tryd.ntmps55
  go_wp2
  rw [Lib.run_to_unsafe w ⟨b, 0, none⟩ Tryd.underlying52 Tryd.underlying84 hj (by rw [hjs]; decide) hsh (Nat.zero_lt_succ 1)]
  simp only [Result.andThen]
  rw [Oper.upon_value]
  go_wp2
  rw [run_callFunc_extern Tryd.func60 (by kernel_rfl) (by kernel_rfl) (by kernel_rfl) (e := Extern.AbiNoEscape.same) (by kernel_rfl)]
  rw [Lib.run_noEscape]
  simp only [Result.andThen]
  rw [Oper.upon_value]
  go_wp2
  rw [Lib.run_from_unsafe w ⟨b, 0, none⟩ Tryd.underlying84 Tryd.underlying52 hj hsh (by kernel_rfl)]
  simp only [Result.andThen]
  rw [Oper.upon_value]
  go_wp2
  go_end0
  exact ⟨rfl, rfl⟩
/-- whatever is cells, no bytes, and not block b, lies as it lay -/
def Keep8 (b : Nat) (W W' : World) : Prop := ∀ (k : Nat) (cs : Array Value) (T : TypeId) (fr : Nat × Nat), W.heap[k]? = some (.cells cs T fr) → T ≠ 5 → k ≠ b → W'.heap[k]? = some (.cells cs T fr)
theorem Keep8.trans {b : Nat} {X Y Z : World} (h : Keep8 b X Y) (g : Keep8 b Y Z) : Keep8 b X Z := fun k cs T fr h1 h2 h3 => g k cs T fr (h k cs T fr h1 h2 h3) h2 h3
theorem Keep8.set (b j : Nat) (W : World) (v : Value) : Keep8 b W (W.setCell ⟨b, j, none⟩ v) := fun k cs T fr h1 _ h3 => (heap_setCell_other W ⟨b, j, none⟩ k v h3).trans h1
theorem Keep8.grown {b : Nat} {B n : Nat} {v : Value} {xs : List Value} {W W' : World} (hown : W.ownsRow B 5 1 v n xs) (hg : W.grownBy W' v.ownBlock) : Keep8 b W W' := fun k cs T fr h1 h2 _ =>
  (hg.block k (Array.getElem?_eq_some_iff.1 h1).1 (fun e => Lib.ownBlock_ne hown h1 h2 e.symm)).trans h1
theorem own_isCells {W : World} {B e n : Nat} {v : Value} {xs : List Value} (hown : W.ownsRow B e 1 v n xs) : ∀ (j : Nat) (o : Obj), v.ownBlock = some j → W.heap[j]? = some o → o.isCells = true := by
  intro j o hj ho
  rcases hown.2 with ⟨rfl, _⟩ | ⟨g, cap, cur, rfl, _, hg, _⟩
  · simp [Value.ownBlock] at hj
  · simp only [Value.ownBlock, Option.some.injEq] at hj
    subst hj
    rw [hg] at ho
    cases ho
    rfl
set_option maxHeartbeats 2000000 in
set_option maxRecDepth 100000 in
theorem builder_write (B b : Nat) (bs : List Value) (ad : Addr) (m c : Nat) (news : List Value) (w : World) (h : Lib.IsBuilder 55 5 B b bs w)
    (hl : news.length = m) (hnews : ∀ j u, news[j]? = some u → w.cell? (ad.add j) = some u) (hadb : ad.block ≠ b) (h1 : ∀ u ∈ news, u.oneCell' = true)
    (hlen : bs.length + m ≤ 140737488355328) (hBw : B ≤ w.heap.size) :
    Calls Tryd.prog 38 #[.pointer (some ⟨b, 0, none⟩), .slice (some ad) m c] w fun e w' => e = .returned (.tuple #[.int .i64 m, .nilIface]) ∧ Lib.BuilderAt 55 5 B b (.pointer (some ⟨b, 0, none⟩)) (bs ++ news) w' ∧ Below B w w' ∧ KeepsOthers w w' ∧ Keep8 b w w' := by
  have cC : Calls Tryd.prog 55 #[.pointer (some ⟨b, 0, none⟩)] w fun e w' => e = .returned (.tuple #[]) ∧ Lib.BuilderAt 55 5 B b (.pointer (some ⟨b, 0, none⟩)) bs w' ∧ Below B w w' ∧ KeepsOthers w w' ∧ Keep8 b w w' ∧ (∀ a : Addr, a.block ≠ b → w'.cell? a = w.cell? a) := by
    rcases h with h | h
    · refine (copyCheck_fresh b w h.cell0 h.shape h.frozen0).mono ?_
      rintro e w' ⟨rfl, rfl⟩
      exact ⟨rfl, h.used _, (Below.refl B w).setCell (p := ⟨b, 0, none⟩) h.1 _, KeepsOthers.setCell _ _ _, Keep8.set _ _ _ _, fun a ha => by
        unfold World.cell?
        rw [heap_setCell_other w ⟨b, 0, none⟩ a.block _ ha]⟩
    · refine (copyCheck_used b w h.cell0).mono ?_
      rintro e w' ⟨rfl, rfl⟩
      exact ⟨rfl, h, Below.refl B _, KeepsOthers.refl _, fun _ _ _ _ h _ _ => h, fun _ _ => rfl⟩
  clear h
  obtain ⟨i0, hi, hz0, hz1, hz2⟩ := info_parts (show (Tryd.prog.info? 5).map (fun i => (i.zero, i.size, i.bytes)) = some (some (.int .u8 0), 1, 1) from by kernel_rfl)
  go_enter Tryd.func38, Tryd.ntmps38
  go_wp2_with (go_at_call 55; refine cC.mono ?_)
  rintro e w1 ⟨rfl, h1', hb1, hko, hk8, hcells⟩
  obtain ⟨hB, v, hbk, hown, hne⟩ := h1'
  have c0 : w1.cell? ⟨b, 0, none⟩ = some (.pointer (some ⟨b, 0, none⟩)) := by rw [Lib.cell_of_heap hbk]; rfl
  have c1 : w1.cell? ⟨b, 1, none⟩ = some v := by rw [Lib.cell_of_heap hbk]; rfl
  have hnews1 : ∀ j u, news[j]? = some u → w1.cell? (ad.add j) = some u := fun j u hj => by rw [hcells (ad.add j) (by unfold Addr.add; split <;> exact hadb)]; exact hnews j u hj
  go_wp2_with (at_builtin; refine wpList_append_own _ rfl _ _ 53 rfl B 5 i0 (.int .u8 0) 1 1 Tryd.underlying53 hi hz0 hz1 hz2 rfl (by decide) _ _ _ rfl hown ad m c news rfl (by omega) hnews1 h1 ?c3 ?c4 ?c5 ?_)
  case c3 => unfold maxLen; omega
  case c4 => omega
  case c5 => have := hb1.size; omega
  intro v' w2 hown' hgrow _
  have hlt : b < w1.heap.size := by
    rcases Nat.lt_or_ge b w1.heap.size with h' | h'
    · exact h'
    · simp [Array.getElem?_eq_none h'] at hbk
  have hb2 : w2.heap[b]? = some (.cells #[.pointer (some ⟨b, 0, none⟩), v] 55 (0, 0)) := by
    rw [hgrow.block b hlt (fun e => hne e.symm)]
    exact hbk
  have d0 : w2.cell? ⟨b, 0, none⟩ = some (.pointer (some ⟨b, 0, none⟩)) := by rw [Lib.cell_of_heap hb2]; rfl
  have d1 : w2.cell? ⟨b, 1, none⟩ = some v := by rw [Lib.cell_of_heap hb2]; rfl
  have f1 : w2.frozen? ⟨b, 1, none⟩ = false := Lib.frozen_of_heap hb2 1
  obtain ⟨ao, n', cap, rfl⟩ : ∃ ao n' cap, v' = .slice ao n' cap := by
    rcases hown'.2 with ⟨hv, _⟩ | ⟨g, cap, cur, hv, _⟩
    · exact ⟨_, _, _, hv⟩
    · exact ⟨_, _, _, hv⟩
  go_wp2
  go_ret2
  refine ⟨rfl, ?_, ?_, ?_, ?_⟩
  · exact Lib.BuilderAt.put (T := 55) (e := 5) hB hb2 (bs' := bs ++ news) (by simpa [hl] using hown') (by decide)
  · exact (hb1.grown hgrow (by have := hb1.size; omega) (fun k hk => (hown.lt k hk).1)).setCell (p := ⟨b, 1, none⟩) hB _
  · exact (hko.trans (KeepsOthers.of_grownBy hgrow (own_isCells hown))).trans (KeepsOthers.setCell _ _ _)
  · exact (hk8.trans (Keep8.grown hown hgrow)).trans (Keep8.set _ _ _ _)
theorem builder_below {B b : Nat} {bs : List Value} {W W' : World} (h : Lib.IsBuilder 55 5 B b bs W) (hb : Below W.heap.size W W') : Lib.IsBuilder 55 5 B b bs W' := by
  have key : ∀ p, Lib.BuilderAt 55 5 B b p bs W → Lib.BuilderAt 55 5 B b p bs W' := by
    intro p h
    have hlt := h.lt
    obtain ⟨hB, v, hbk, hown, hne⟩ := h
    exact ⟨hB, v, (hb.block b hlt).trans hbk, pw_own_below hown hb, hne⟩
  rcases h with h | h
  · exact .inl (key _ h)
  · exact .inr (key _ h)
theorem wpListIn_store_row {F : Fence} {n : Nat} {P : Program} {w : World} {ops : Array Oper} {rest : List Oper} {o : Oper} {a : Act} {Q : Exit → Act → World → Prop} (hgd : o.guard = none) (ty : TypeId) (x y : Operand) (ho : o.op = .store ty x y)
    (g : Nat) (cells : Array Value) (hx : a.eval x = .pointer (some ⟨g, 0, none⟩)) (hy : a.eval y = .agg cells)
    (t : TypeId) (old : Array Value) (hg : w.heap[g]? = some (.cells old t (0, 0))) (hi : (P.info? ty).map (·.size) = some cells.size)
    (hold : old.size = cells.size) (h1 : cells.all (·.oneCell') = true)
    (h : wpListIn F n P ops Q rest (a.put o.dst undef) (w.setRow g cells)) : wpListIn F n P ops Q (o :: rest) a w := by
  refine wpListIn_plain hgd fun K hK' => ?_
  unfold Oper.wpIn
  refine ⟨by simp [Oper.about, ho], ?_⟩
  rw [Oper.semAt_plain F _ _ (by rw [ho]; intro c hc; cases hc)]
  simp only [execOp, ho, hx, hy, Instr.storeAt, Instr.sureAddr, Sem.run_bind, Sem.run_pure, Result.andThen_ok, run_storeVar_row w g t ty old cells hg hi hold h1]
  exact hK' _ _ h
/-- two blocks lie as they lay -/
def Kp2 (B1 B2 : Nat) (W W' : World) : Prop := W'.heap[B1]? = W.heap[B1]? ∧ W'.heap[B2]? = W.heap[B2]?
theorem Kp2.refl (B1 B2 : Nat) (W : World) : Kp2 B1 B2 W W := ⟨rfl, rfl⟩
theorem Kp2.trans {B1 B2 : Nat} {X Y Z : World} (h : Kp2 B1 B2 X Y) (k : Kp2 B1 B2 Y Z) : Kp2 B1 B2 X Z := ⟨k.1.trans h.1, k.2.trans h.2⟩
theorem Kp2.cell1 {B1 B2 : Nat} {W W' : World} (h : Kp2 B1 B2 W W') (j : Nat) : W'.cell? ⟨B1, j, none⟩ = W.cell? ⟨B1, j, none⟩ := by unfold World.cell?; rw [h.1]
theorem Kp2.cell2 {B1 B2 : Nat} {W W' : World} (h : Kp2 B1 B2 W W') (j : Nat) : W'.cell? ⟨B2, j, none⟩ = W.cell? ⟨B2, j, none⟩ := by unfold World.cell?; rw [h.2]
theorem Kp2.below {B1 B2 n : Nat} {W W' : World} (h : Below n W W') (h1 : B1 < n) (h2 : B2 < n) : Kp2 B1 B2 W W' := ⟨h.block B1 h1, h.block B2 h2⟩
theorem Kp2.grown {B1 B2 : Nat} {W W' : World} {row : Option Nat} (hg : W.grownBy W' row) (h1 : B1 < W.heap.size) (h2 : B2 < W.heap.size) (n1 : some B1 ≠ row) (n2 : some B2 ≠ row) : Kp2 B1 B2 W W' := ⟨hg.block B1 h1 n1, hg.block B2 h2 n2⟩
abbrev U32P := { x : Int × Int // 0 ≤ x.2 ∧ x.2 < 4294967296 }
set_option maxRecDepth 100000 in
set_option maxHeartbeats 2000000 in
/-- slices.Backward's closure, at a slice that has an element -/
theorem back1_in (F : Fence) (n : Nat) (hf : F.fn 54) (hro : F.round = none) (hn : 1 ≤ n) (l Bs b off cap : Nat) (zs : List Int) (hz : ∀ z ∈ zs, 0 ≤ z ∧ z < 4294967296) (hreach : zs.length * 4 ≤ 140737488351232) (J Jx : List U32P → World → Prop)
    (hY : ∀ pre x W, J pre W → pre.length < zs.length → YieldAt F (n - 1) Tryd.prog l #[.int .i64 x.1.1, .int .u32 x.1.2] W fun e W' =>
      (e = .returned (.bool true) ∧ J (pre ++ [x]) W' ∧ Kp2 Bs b W W') ∨ (e = .returned (.bool false) ∧ Jx (pre ++ [x]) W'))
    (W : World) (hBs : W.cell? ⟨Bs, 0, none⟩ = some (.slice (some ⟨b, off, none⟩) zs.length cap))(hc : ∀ j, j < zs.length → W.cell? ⟨b, off + j, none⟩ = some (.int .u32 (zs[j]?.getD 0))) (h0 : J [] W) :
    CallsIn F n Tryd.prog 54 #[.func (.yield l) #[] #[], .pointer (some ⟨Bs, 0, none⟩)] W fun e W' => (∃ v, e = .returned v) ∧
      ((∃ ys : List U32P, ys.map (fun x => x.1.2) = zs.reverse ∧ J ys W') ∨ (∃ pre : List U32P, True ∧ Jx pre W')) := by
  refine callsIn_of_wp Tryd.func54 rfl hf ?_ hro
  simp only [Tryd.ntmps54, List.size_toArray, List.length_cons, List.length_nil, Nat.reduceAdd, Nat.reduceSub, Array.replicate_succ, Array.replicate_zero, List.push_toArray, List.append_toArray, List.nil_append, List.cons_append]
  gi_wp2
  gi_loopw [3] (fun i wr => ∃ (j : Nat) (pre : List U32P), j ≤ zs.length ∧ i = .int .i64 ((j : Int) - 1) ∧ pre.map (fun x => x.1.2) = (zs.drop j).reverse ∧ pre.length = zs.length - j ∧ J pre wr ∧ Kp2 Bs b W wr)
    (fun i _ => ((intOf i) + 1).toNat)
  case atStart => exact ⟨zs.length, [], Nat.le_refl _, rfl, by simp, by simp, h0, Kp2.refl _ _ _⟩
  case round =>
    obtain ⟨j, pre, hj, rfl, hp, hpl, hJs, hnx⟩ := hrel
    have hBw : wr.cell? ⟨Bs, 0, none⟩ = some (.slice (some ⟨b, off, none⟩) zs.length cap) := (hnx.cell1 0).trans hBs
    cases j with
    | zero =>
      have e0 : (((0 : Nat) : Int) - 1) = -1 := by decide
      rw [e0]
      gi_wp2
      go_end0
      exact ⟨⟨_, rfl⟩, .inl ⟨pre, by simpa using hp, hJs⟩⟩
    | succ j =>
      have e0 : (((j + 1 : Nat) : Int) - 1) = (j : Int) := by omega
      rw [e0]
      have hcx : wr.cell? ⟨b, off + j, none⟩ = some (.int .u32 (zs[j]?.getD 0)) := (hnx.cell2 _).trans (hc j (by omega))
      have hzj : 0 ≤ zs[j]?.getD 0 ∧ zs[j]?.getD 0 < 4294967296 := by
        rw [List.getElem?_eq_getElem (by omega)]
        exact hz _ (List.getElem_mem _)
      obtain ⟨fn, tmps, assign, body, hy, hR⟩ := hY pre ⟨((j : Int), zs[j]?.getD 0), hzj⟩ wr hJs (by omega)
      dsimp only at hy
      have hj2 : (j : Int) < (zs.length : Int) := by omega
      gi_wp2
      refine hR.mono ?_
      rintro e W3 (⟨rfl, hJ3, hk3⟩ | ⟨rfl, hJx3⟩)
      · gi_wp2
        go_roundw
        case rel => exact ⟨j, _, by omega, rfl, by rw [List.map_append, hp, List.drop_eq_getElem_cons (show j < zs.length by omega), List.reverse_cons]; simp [List.getElem?_eq_getElem (show j < zs.length by omega)], by simp; omega, hJ3, hnx.trans hk3⟩
        case measure => first | (simp [intOf]; done) | (simp [intOf]; omega)
      · gi_wp2
        refine bodyPost_ret (results_none rfl _ _ _) rfl ?_
        exact ⟨⟨_, rfl⟩, .inr ⟨_, trivial, hJx3⟩⟩
set_option maxHeartbeats 1000000 in
theorem back_in (F : Fence) (n : Nat) (hf : F.fn 36) (hro : F.round = none) (a : Option Addr) (len cap : Nat) (w : World) :
    CallsIn F n Tryd.prog 36 #[.slice a len cap] w fun e w' => e = .returned (.func (.func 54) #[] #[.pointer (some ⟨w.heap.size, 0, none⟩)]) ∧ w' = w.alloc (.cells #[.slice a len cap] 23) := by
  refine callsIn_of_wp Tryd.func36 rfl hf ?_ hro
  simp only [Tryd.ntmps36, List.size_toArray, List.length_cons, List.length_nil, Nat.reduceAdd, Nat.reduceSub, Array.replicate_succ, Array.replicate_zero, List.push_toArray, List.append_toArray, List.nil_append, List.cons_append]
  gi_wp2
  go_ret
  exact ⟨rfl, rfl⟩
/-- slices.Backward hands back a value that stops: all, from the last to the first -/
theorem back_stops (F : Fence) (n : Nat) (hf : F.fn 54) (hro : F.round = none) (hn : 1 ≤ n) (Bs b off cap : Nat) (zs : List Int) (hz : ∀ z ∈ zs, 0 ≤ z ∧ z < 4294967296) (hreach : zs.length * 4 ≤ 140737488351232) (w : World) (hBs : Bs < w.heap.size) (hb : b < w.heap.size)
    (hc : w.cell? ⟨Bs, 0, none⟩ = some (.slice (some ⟨b, off, none⟩) zs.length cap)) (hcs : ∀ j, j < zs.length → w.cell? ⟨b, off + j, none⟩ = some (.int .u32 (zs[j]?.getD 0))) :
    SeqStopsK F n Tryd.prog 54 #[.pointer (some ⟨Bs, 0, none⟩)] (fun x : U32P => #[Value.int .i64 x.1.1, Value.int .u32 x.1.2]) (Kp2 Bs b) (fun ys => ys.map (fun x => x.1.2) = zs.reverse) (fun _ => True) zs.length w := fun l J Jx W hW _ _ hY h0 => by
  exact back1_in F n hf hro hn l Bs b off cap zs hz hreach J Jx hY W ((hW.cell (p := ⟨Bs, 0, none⟩) hBs).trans hc) (fun j hj => (hW.cell (p := ⟨b, off + j, none⟩) hb).trans (hcs j hj)) h0
theorem wrapLen {l : Nat} (h : l ≤ 9223372036854775807) : wrap64 ((l : Int)) = (l : Int) := by unfold wrap64; omega
theorem trim_pure (k : Nat) : ∀ l : List Int, l.length < k → l.length ≤ 9223372036854775807 → nat_trim.l0 k l = some (Num.trimW l) := by
  induction k with
  | zero => intro l h; omega
  | succ k ih =>
    intro l h hl
    simp only [nat_trim.l0]
    rcases List.eq_nil_or_concat l with rfl | ⟨m, x, rfl⟩
    · simp [Num.trimW]
    · rw [List.concat_eq_append] at h hl ⊢
      have e1 : wrap64 (((m ++ [x]).length : Int) - 1) = (m.length : Int) := by
        simp only [List.length_append, List.length_cons, List.length_nil] at hl ⊢
        unfold wrap64; omega
      have e2 : rd (m ++ [x]) (m.length : Int) = x := by simp [rd]
      rw [e1, e2, if_pos (by simp only [List.length_append, List.length_cons, List.length_nil]; omega), if_pos (by omega), if_pos (by simp only [List.length_append, List.length_cons, List.length_nil]; omega)]
      by_cases hx : x = 0
      · rw [if_pos hx, if_pos (by simp only [List.length_append, List.length_cons, List.length_nil]; omega)]
        have e3 : (m ++ [x]).take ((m.length : Int)).toNat = m := by simp
        rw [e3, ih m (by simp at h; omega) (by simp at hl; omega), hx, Num.trimW_snoc_zero]
      · rw [if_neg hx, Num.trimW_snoc_ne _ hx]
theorem norm_pure (l : List Int) (hl : l.length ≤ 1000000) : nat_Norm.f (l.length + 1) l = some (Num.trimW l) := by
  unfold nat_Norm.f nat_trim.f
  rw [trim_pure _ l (by omega) (by omega)]
  have := Num.trimW_length_le l
  simp only [Option.bind_some, slices_Clone_uint32_uint32.f]
  rw [if_pos (by omega)]
  rfl

theorem byteCells_dg9 (n : Int) (h0 : 0 ≤ n) : (dcells n 9).toList = Lib.byteCells (Num.dg9 n) := by
  simp only [dcells, Num.dg9, Lib.byteCells, List.map_map]
  refine List.map_congr_left fun j hj => ?_
  have hj9 : j < 9 := List.mem_range.1 hj
  have h1 : 0 ≤ n / 10 ^ (8 - j) % 10 := Int.emod_nonneg _ (by decide)
  have h2 : n / 10 ^ (8 - j) % 10 < 10 := Int.emod_lt_of_pos _ (by decide)
  simp only [Function.comp]
  rw [if_pos (by omega)]
  congr 1
  rw [UInt8.toNat_ofNat_of_lt' (by simp [UInt8.size]; omega)]
  omega
theorem kept_cells {W W' : World} {row : Option Nat} {b : Nat} {o : Obj} (hg : W.grownBy W' row) (hr : ∀ r, row = some r → ∃ o : Obj, W.heap[r]? = some o ∧ o.isCells = false) (hb : W.heap[b]? = some o) (ho : o.isCells = true) : W'.heap[b]? = some o := by
  refine (hg.block b (Array.getElem?_eq_some_iff.1 hb).1 fun e => ?_).trans hb
  obtain ⟨o', h1, h2⟩ := hr b e.symm
  rw [hb] at h1
  cases h1
  rw [ho] at h2
  cases h2
theorem builder_own {β : Type} {B b : Nat} (f : β → List Value) : Own (fun s W => Lib.IsBuilder 55 5 B b (f s) W) := by
  intro s W W' row hs hg hr
  have key : ∀ p, Lib.BuilderAt 55 5 B b p (f s) W → Lib.BuilderAt 55 5 B b p (f s) W' := by
    rintro p ⟨hB, v, hb, hown, hne⟩
    refine ⟨hB, v, kept_cells hg hr hb rfl, hown.kept hg ?_, hne⟩
    rcases hown.2 with ⟨rfl, _⟩ | ⟨g, cap, cur, rfl, _, hh, _⟩
    · exact .inl rfl
    · refine .inr fun e => ?_
      obtain ⟨o', h1, h2⟩ := hr g (by rw [← e]; rfl)
      rw [hh] at h1
      cases h1
      cases h2
  rcases hs with h | h
  · exact .inl (key _ h)
  · exact .inr (key _ h)
theorem shq_cons_step (D : Int) (ml : List Int) (j : Nat) (hj : j < ml.length) : Num.shq D (ml.drop j) = ((((Num.shq D (ml.drop (j + 1))).2 * 4294967296 + ml[j]) / D) :: (Num.shq D (ml.drop (j + 1))).1, ((Num.shq D (ml.drop (j + 1))).2 * 4294967296 + ml[j]) % D) := by
  rw [List.drop_eq_getElem_cons hj]
  rfl
theorem cur_get {cur ml : List Int} {j : Nat} (hl : cur.length = ml.length) (hj : j < ml.length) (ht : cur.take (j + 1) = ml.take (j + 1)) : rdOf 0 cur (j : Int) = ml[j] := by
  have h1 := congrArg (fun l => l[j]?) ht
  simp only [List.getElem?_take] at h1
  rw [if_pos (by omega), if_pos (by omega), List.getElem?_eq_getElem (by omega), List.getElem?_eq_getElem hj] at h1
  simp only [rdOf, Int.toNat_natCast, List.getD_eq_getElem?_getD]
  rw [List.getElem?_eq_getElem (by omega)]
  simpa using h1
theorem cur_take {cur ml : List Int} {j : Nat} (q : Int) (ht : cur.take (j + 1) = ml.take (j + 1)) : (cur.set j q).take j = ml.take j := by
  rw [List.take_set_of_le (Nat.le_refl _)]
  have := congrArg (fun l => l.take j) ht
  simpa [List.take_take] using this
theorem cur_drop {cur : List Int} {j : Nat} (q : Int) (hj : j < cur.length) : (cur.set j q).drop j = q :: cur.drop (j + 1) := by
  rw [List.drop_eq_getElem_cons (by simpa using hj), List.getElem_set_self, List.drop_set_of_lt (by omega)]
theorem pcs_step {V0 : Nat} {ml pl : List Int} {D : List Int} {r : Int} (hok : Num.okW ml) (hn : Num.normed ml) (hne : ml ≠ []) (hD : D = (Num.shq 1000000000 ml).1) (hr : r = (Num.shq 1000000000 ml).2)
    (hp : Num.pcs V0 = pl ++ Num.pcs (Num.valN ml)) (hb : Num.valN ml * 65536 ^ pl.length ≤ V0) :
    Num.okW (Num.trimW D) ∧ Num.valN (Num.trimW D) < Num.valN ml ∧ Num.pcs V0 = (pl ++ [r]) ++ Num.pcs (Num.valN (Num.trimW D)) ∧ Num.valN (Num.trimW D) * 65536 ^ (pl ++ [r]).length ≤ V0 := by
  have hv : Num.valN ml ≠ 0 := fun h => hne (by rw [← hn]; exact (Num.valN_zero hok).1 h)
  obtain ⟨e1, e2⟩ := Num.shq_val (d := 1000000000) (by decide) hok
  have e3 : Num.valN (Num.trimW D) = Num.valN ml / 1000000000 := by rw [Num.trimW_val, hD, e1]; rfl
  refine ⟨by rw [hD]; exact Num.okW_trim (Num.shq_ok (by decide) hok), by rw [e3]; exact Nat.div_lt_self (by omega) (by decide), ?_, ?_⟩
  · rw [hp, Num.pcs_pos (by omega), e3, hr, e2]
    simp
  · rw [e3, List.length_append, List.length_singleton, Nat.pow_succ]
    obtain ⟨v, hv2⟩ : ∃ v, v = Num.valN ml := ⟨_, rfl⟩
    rw [← hv2] at hb ⊢
    have h1 : v / 1000000000 * 65536 ≤ v := by omega
    obtain ⟨x, hx⟩ : ∃ x, x = v / 1000000000 := ⟨_, rfl⟩
    rw [← hx] at h1 ⊢
    obtain ⟨y, hy⟩ : ∃ y, y = 65536 ^ pl.length := ⟨_, rfl⟩
    rw [← hy] at hb ⊢
    rw [Nat.mul_comm y, ← Nat.mul_assoc]
    exact Nat.le_trans (Nat.mul_le_mul_right y h1) hb
theorem pl_bound {V0 p v n : Nat} (hv : v ≠ 0) (hb : v * 65536 ^ p ≤ V0) (h0 : V0 < 4294967296 ^ n) : p < 2 * n := by
  have h1 : 65536 ^ p < 65536 ^ (2 * n) := by
    rw [Nat.pow_mul]
    have h2 : 65536 ^ p ≤ v * 65536 ^ p := Nat.le_mul_of_pos_left _ (by omega)
    exact Nat.lt_of_le_of_lt (Nat.le_trans h2 hb) h0
  exact (Nat.pow_lt_pow_iff_right (by decide)).1 h1
set_option maxRecDepth 100000 in
set_option maxHeartbeats 8000000 in
theorem text_any (A0 : Option Addr) (c0 : Nat) (l0 : List Int) (w : World) (hr0 : Kd.C (Kd.int .u32) w A0 l0.length l0) (hc0 : l0.length ≤ c0) (hok : Num.okW l0) (hlen : l0.length ≤ 1000000) :
    Calls Tryd.prog 13 #[.slice A0 l0.length c0] w fun e w' => e = .returned (.string ⟨(Num.textN (Num.valN l0)).toArray⟩) ∧ Below w.heap.size w w' := by
  have HR0 := Aside0.mk hr0
  have HC0 := Aside0.mk hc0
  have HOK := Aside0.mk hok
  have HLEN := Aside0.mk hlen
  clear hr0 hc0 hok hlen
  have HN := Aside0.mk (norm_pure l0 HLEN.out)
  have HVT := Aside0.mk (Num.trimW_val l0)
  by_cases hv0 : Num.trimW l0 = []
  · have HV := Aside0.mk ((Num.valN_zero HOK.out).2 hv0)
    have HB := Aside0.mk (Below.refl w.heap.size w)
    go_enter Tryd.func13, Tryd.ntmps13
    go_wp2_with (go_at_call 23; refine (nat_Norm.calls (l0.length + 1) A0 c0 l0 (Num.trimW l0) _ HR0.out HC0.out HN.out).mono ?_; rintro e w1 ⟨v1, rfl, ho, hb⟩; obtain ⟨A1, c1, e1⟩ := Kd.R_slice ho; rw [hv0, List.length_nil] at e1; subst e1; have HB1 := Aside0.mk hb; clear ho hb)
    go_ret
    refine ⟨?_, HB1.out⟩
    rw [HV.out]; rfl
  · have HV : Aside0 (Num.valN l0 ≠ 0) := ⟨fun h => hv0 ((Num.valN_zero HOK.out).1 h)⟩
    have HB := Aside0.mk (Below.refl w.heap.size w)
    refine (callsIn_wide (n := 12)).1 ?_
    refine callsIn_of_wp_marks Tryd.func13 rfl trivial ?_ rfl
    simp only [Tryd.ntmps13, List.size_toArray, List.length_cons, List.length_nil, Nat.reduceAdd, Nat.reduceSub, Array.replicate_succ, Array.replicate_zero, List.push_toArray, List.append_toArray, List.nil_append, List.cons_append]
    refine wpIn_wide.2 ?_
    have hpos : ¬ (Num.trimW l0).length = 0 := fun h => hv0 (List.length_eq_zero_iff.1 h)
    have hz0 : (((Num.trimW l0).length : Int) == 0) = false := by simpa using hpos
    have hz1 : decide ((Num.trimW l0).length = 0) = false := decide_eq_false hpos
    go_wp2_with (go_at_call 23; refine (nat_Norm.calls (l0.length + 1) A0 c0 l0 (Num.trimW l0) _ HR0.out HC0.out HN.out).mono ?_; rintro e w1 ⟨v1, rfl, ho, hb⟩; obtain ⟨A1, c1, e1⟩ := Kd.R_slice ho; subst e1; have HO := Aside0.mk ho; have HB1 := Aside0.mk hb; clear ho hb)
    go_loopg [3, 4] (Num.valN l0) (fun kq v3 v4 w' => ∃ (ml pl : List Int), Aside0 (Num.okW ml) ∧ Aside0 (Num.normed ml) ∧ Aside0 (ml.length ≤ 1000000) ∧ Aside0 (Num.valN ml = kq) ∧ Aside0 (Num.pcs (Num.valN l0) = pl ++ Num.pcs (Num.valN ml)) ∧ Aside0 (Num.valN ml * 65536 ^ pl.length ≤ Num.valN l0) ∧ Aside0 (Kd.R (Kd.int .u32) 38 w' w.heap.size (fun k_ => True ∧ some k_ ≠ v4.ownBlock) v3 ml) ∧ Aside0 (Kd.R (Kd.int .u32) 38 w' w.heap.size (fun k_ => some k_ ≠ v3.ownBlock) v4 pl) ∧ Aside0 (Below w.heap.size w w'))
    case atStart =>
      refine ⟨Num.trimW l0, [], ⟨Num.okW_trim HOK.out⟩, ⟨Num.normed_trim l0⟩, ⟨by have := Num.trimW_length_le l0; have := HLEN.out; omega⟩, ⟨Num.trimW_val l0⟩, ⟨by rw [Num.trimW_val]; simp⟩, ⟨by rw [Num.trimW_val]; simp⟩, ⟨Kd.R_apart_nil HO.out⟩, ⟨Kd.R_nil _ _ _ _ _⟩, HB1⟩
    case round =>
      clear HO HB1 HB HR0 HC0
      obtain ⟨ml, pl, HWM, HNM, HLM, HVM, HPC, HPB, HO, HP, HB⟩ := hrel
      by_cases hml : ml = []
      · subst hml
        have HPL : Aside0 (pl = Num.pcs (Num.valN l0)) := ⟨by rw [HPC.out]; simp [Num.valN, Num.pcs_zero]⟩
        have hplne : 0 < pl.length := by
          rw [HPL.out, Num.pcs_pos (Nat.pos_of_ne_zero HV.out)]
          simp
        obtain ⟨A3, c3, e3⟩ := Kd.R_slice HO.out
        rw [List.length_nil] at e3
        subst e3
        obtain ⟨g4, c4, e4, gb4, gl4, cl4, HG4⟩ := Kd.R_form HP.out hplne
        subst e4
        have HPC4 : Aside0 (∀ j, j < pl.length → wr.cell? ⟨g4, 0 + j, none⟩ = some (.int .u32 (pl[j]?.getD 0))) := ⟨fun j hj => by
          have h1 := (Kd.R_celln 0 HP.out (j : Int) (by omega) (by omega)).1
          rw [Int.toNat_natCast] at h1
          rw [Nat.zero_add, h1]
          simp [rdOf, List.getD_eq_getElem?_getD]⟩
        have GB4 := Aside0.mk gb4
        have GL4 := Aside0.mk gl4
        have HCS4 := Aside0.mk HG4
        clear gb4 gl4 HG4 HO
        go_wp2_with (go_at_call 36; refine (callsIn_wide.1 (back_in Fence.wide 3 trivial rfl _ _ _ _)).mono ?_; rintro e w' ⟨rfl, rfl⟩)
        have HPLB := Aside0.mk (show pl.length ≤ 2 * l0.length from by rw [HPL.out]; exact Num.pcs_len _ _ (by rw [Nat.pow_mul]; exact Num.valN_lt HOK.out))
        have HZ : Aside0 (∀ z ∈ pl, 0 ≤ z ∧ z < 4294967296) := ⟨fun z hz => by rw [HPL.out] at hz; have := Num.pcs_range _ z hz; omega⟩
        obtain ⟨W0, hW0⟩ : ∃ W0 : World, W0 = (wr.alloc (Obj.cells #[Value.pointer none, Value.slice none 0 0] 55)).alloc (Obj.cells #[Value.slice (some ⟨g4, 0, none⟩) pl.length c4] 23) := ⟨_, rfl⟩
        have hBW : Below wr.heap.size wr W0 := by rw [hW0]; exact ((Below.refl _ _).alloc (Nat.le_refl _) _).alloc (by simp) _
        have hBW0 : Below w.heap.size w W0 := by rw [hW0]; exact (HB.out.alloc HB.out.size _).alloc (by simp; have := HB.out.size; omega) _
        have hs0 : W0.heap.size = wr.heap.size + 2 := by rw [hW0]; simp
        have hbb : W0.heap[wr.heap.size]? = some (.cells #[Value.pointer none, Value.slice none 0 0] 55 (0, 0)) := by rw [hW0]; exact heap_alloc2_old wr _ _
        have hbx : W0.heap[wr.heap.size + 1]? = some (.cells #[Value.slice (some ⟨g4, 0, none⟩) pl.length c4] 23 (0, 0)) := by rw [hW0]; exact heap_alloc2_new wr _ _
        have hg4 : W0.heap[g4]? = some (.cells cl4 38 (0, 0)) := (hBW.block g4 GL4.out).trans HCS4.out
        have hc4 : ∀ j, j < pl.length → W0.cell? ⟨g4, 0 + j, none⟩ = some (.int .u32 (pl[j]?.getD 0)) := fun j hj => (hBW.cell (p := ⟨g4, 0 + j, none⟩) GL4.out).trans (HPC4.out j hj)
        have hcb : W0.cell? ⟨wr.heap.size + 1, 0, none⟩ = some (.slice (some ⟨g4, 0, none⟩) pl.length c4) := by rw [Lib.cell_of_heap hbx]; rfl
        have HW0 := Aside0.mk hW0
        rw [← hW0]
        clear hW0 HPC4 HCS4
        refine (wpIn_wide (n := 12)).1 ?_
        refine wpIn_rangeFunc_ownG rfl (by omega) (gf := 54) (lb := #[.pointer (some ⟨wr.heap.size + 1, 0, none⟩)]) rfl trivial (enters_of Tryd.func54 (by kernel_rfl) rfl)
          (back_stops Fence.wide 11 trivial rfl (by omega) (wr.heap.size + 1) g4 0 c4 pl HZ.out (by have := HPLB.out; have := HLEN.out; omega) W0 (by omega) (by have := GL4.out; omega) hcb hc4)
          Kp2.trans (fun W l o o' hl h ho _ => Kp2.grown (grownBy_putObj' W l o') (by have := (Array.getElem?_eq_some_iff.1 h).1; omega) (by have := (Array.getElem?_eq_some_iff.1 h).1; have := GL4.out; omega) (fun e => by injection e with e; omega) (fun e => by injection e with e; have := GL4.out; omega)) (Below.refl _ _) (fun _ => rfl)
          (fun pre W => (Lib.IsBuilder 55 5 w.heap.size wr.heap.size (Lib.byteCells ((pre.map (fun x => x.1.2)).flatMap Num.dg9)) W ∧ W.heap[wr.heap.size + 1]? = some (.cells #[Value.slice (some ⟨g4, 0, none⟩) pl.length c4] 23 (0, 0)) ∧ W.heap[g4]? = some (.cells cl4 38 (0, 0))) ∧ Below w.heap.size w W)
          (fun _ _ _ => False)
          (OwnFrom.and (Own.from (fun s A B row hs hg hr => ⟨builder_own (fun pre : List U32P => Lib.byteCells ((pre.map (fun x => x.1.2)).flatMap Num.dg9)) s A B row hs.1 hg hr, kept_cells hg hr hs.2.1 rfl, kept_cells hg hr hs.2.2 rfl⟩) _) (ownFrom_below (Nat.le_refl _) hBW0.size))
          (fun _ _ _ _ _ hs _ _ => hs)
          ⟨⟨.inl ⟨HB.out.size, _, hbb, own_nil _ _ _ _, by simp [Value.ownBlock]⟩, hbx, hg4⟩, hBW0⟩
          (fun x => { tmps := #[.slice A0 l0.length c0, undef, .string ⟨#[]⟩, .slice A3 0 c3, .slice (some ⟨g4, 0, none⟩) pl.length c4, u5, u6, .pointer (some ⟨wr.heap.size, 0, none⟩), undef, .int .u32 x.1.2, undef, .slice A0 l0.length c0, .slice A1 (Num.trimW l0).length c1, .slice A1 (Num.trimW l0).length c1, .int .i64 ((Num.trimW l0).length : Int), .bool false, .slice A3 0 c3, .int .i64 0, .bool false, u19, u20, u21, u22, u23, u24, u25, u26, u27, u28, u29, u30, u31, u32, u33, u34, u35, u36, u37, u38, u39, u40, u41, u42, u43, .slice (some ⟨g4, 0, none⟩) pl.length c4, .func (.func 54) #[] #[.pointer (some ⟨wr.heap.size + 1, 0, none⟩)], .int .i64 x.1.1, .int .u32 x.1.2, undef, undef, undef, undef, undef, undef], defers := [] }) ?assign ?body ?done ?stop
        case assign =>
          intro l x W K hK
          gi_wp2
          exact hK
        case body =>
          rintro l pre x W ⟨⟨hI, hbx', hg4'⟩, hB⟩ hlt
          have hblt : wr.heap.size < W.heap.size := by
            rcases hI with h | h
            · exact h.lt
            · exact h.lt
          have hxlt : wr.heap.size + 1 < W.heap.size := (Array.getElem?_eq_some_iff.1 hbx').1
          have h4lt : g4 < W.heap.size := (Array.getElem?_eq_some_iff.1 hg4').1
          have HI := Aside0.mk hI
          have HBX := Aside0.mk hbx'
          have HG4' := Aside0.mk hg4'
          have HBB := Aside0.mk hB
          have HLT := Aside0.mk hlt
          have HXLT := Aside0.mk hxlt
          have H4LT := Aside0.mk h4lt
          have HBLT := Aside0.mk hblt
          clear hI hbx' hg4' hB hlt hxlt h4lt hblt
          gi_wp2_with (first | (refine ⟨trivial, ?_⟩; gi_at_call 37; refine (CallsIn.inRound l (callsIn_wide.2 (digits_any x.1.2 W x.2.1 x.2.2))).mono ?_; rintro e W1 ⟨rfl, hb1⟩; have HB1 := Aside0.mk hb1; clear hb1) | (refine wpListIn_store_row rfl 59 _ _ rfl W1.heap.size (dcells x.1.2 9) rfl rfl 59 _ (heap_alloc_new W1 _) (by kernel_rfl) rfl (by simp [dcells, List.range, List.range.loop, Value.oneCell']) ?_))
          obtain ⟨W2, hW2⟩ : ∃ W2 : World, W2 = ((W1.alloc (Obj.cells #[Value.int .u8 0, Value.int .u8 0, Value.int .u8 0, Value.int .u8 0, Value.int .u8 0, Value.int .u8 0, Value.int .u8 0, Value.int .u8 0, Value.int .u8 0] 59)).setRow W1.heap.size (dcells x.1.2 9)) := ⟨_, rfl⟩
          have hB2 : Below W.heap.size W W2 := by rw [hW2]; exact below_setRow (HB1.out.alloc HB1.out.size _) HB1.out.size _
          have hrow : W2.heap[W1.heap.size]? = some (.cells (dcells x.1.2 9) 59 (0, 0)) := by rw [hW2]; exact setRow_heap _ _ _ _ _ _ (heap_alloc_new W1 _)
          have hne : W1.heap.size ≠ wr.heap.size := by have := HB1.out.size; have := HBLT.out; omega
          have hlenb : (Lib.byteCells ((pre.map (fun x => x.1.2)).flatMap Num.dg9)).length = 9 * pre.length := by
            rw [Lib.byteCells_length, List.length_flatMap]
            rw [List.map_map, List.map_congr_left (g := fun _ => 9) (fun a _ => by simp [Num.dg9])]
            simp [List.map_const', Nat.mul_comm]
          have HW2 := Aside0.mk hW2
          rw [← hW2]
          clear hW2
          have hKO : KeepsOthers W W2 := ⟨hB2.size, fun k o hk _ => (hB2.block k (Array.getElem?_eq_some_iff.1 hk).1).trans hk⟩
          refine ⟨trivial, (CallsIn.inRound l (callsIn_wide.2 (builder_write w.heap.size wr.heap.size (Lib.byteCells ((pre.map (fun x => x.1.2)).flatMap Num.dg9)) ⟨W1.heap.size, 0, none⟩ 9 9 (dcells x.1.2 9).toList W2 (builder_below HI.out hB2) (by simp [dcells_size]) ?c1 hne ?c2 ?c3 ?c4))).mono ?_⟩
          case c1 =>
            intro j u hj
            have hadd : (⟨W1.heap.size, 0, none⟩ : Addr).add j = ⟨W1.heap.size, j, none⟩ := by unfold Addr.add; split <;> simp_all
            rw [hadd, Lib.cell_of_heap hrow]
            simpa using hj
          case c2 =>
            intro u hu
            rw [byteCells_dg9 _ x.2.1] at hu
            obtain ⟨b, _, rfl⟩ := List.mem_map.1 hu
            rfl
          case c3 => rw [hlenb]; have := HLT.out; have := HPLB.out; have := HLEN.out; omega
          case c4 => have := HBB.out.size; have := hB2.size; omega
          rintro e W3 ⟨rfl, hbu, hb3, hko3, hk83⟩
          have hbx3 : W3.heap[wr.heap.size + 1]? = some (.cells #[Value.slice (some ⟨g4, 0, none⟩) pl.length c4] 23 (0, 0)) := hk83 _ _ _ _ ((hB2.block _ HXLT.out).trans HBX.out) (by decide) (by omega)
          have hg43 : W3.heap[g4]? = some (.cells cl4 38 (0, 0)) := hk83 _ _ _ _ ((hB2.block _ H4LT.out).trans HG4'.out) (by decide) (by have := GL4.out; omega)
          have HEND := Aside0.mk (show KeepsFrom W0.heap.size W W3 ∧ Kp2 (wr.heap.size + 1) g4 W W3 ∧ (Lib.IsBuilder 55 5 w.heap.size wr.heap.size (Lib.byteCells (((pre ++ [x]).map (fun x => x.1.2)).flatMap Num.dg9)) W3 ∧ W3.heap[wr.heap.size + 1]? = some (.cells #[Value.slice (some ⟨g4, 0, none⟩) pl.length c4] 23 (0, 0)) ∧ W3.heap[g4]? = some (.cells cl4 38 (0, 0))) ∧ Below w.heap.size w W3 from
            ⟨(hKO.trans hko3).from _, ⟨hbx3.trans HBX.out.symm, hg43.trans HG4'.out.symm⟩, ⟨.inr (by
              rw [byteCells_dg9 _ x.2.1] at hbu
              have e1 : Lib.byteCells (((pre ++ [x]).map (fun x => x.1.2)).flatMap Num.dg9) = Lib.byteCells ((pre.map (fun x => x.1.2)).flatMap Num.dg9) ++ Lib.byteCells (Num.dg9 x.1.2) := by simp [Lib.byteCells]
              rw [e1]
              exact hbu), hbx3, hg43⟩, (HBB.out.trans (hB2.mono HBB.out.size)).trans hb3⟩)
          clear hbu hb3 hko3 hk83 hbx3 hg43 hrow hlenb hKO
          gi_wp2
          exact HEND.out
        case done =>
          rintro D ys W hD hys ⟨⟨hI, hbx', hg4'⟩, hB⟩ hK
          rw [hys] at hI
          have hl0 : (pl.reverse.flatMap Num.dg9) ≠ [] := by
            intro h
            rw [List.flatMap_eq_nil_iff] at h
            obtain ⟨z, zs, hz⟩ := List.exists_cons_of_length_pos hplne
            have h9 := h z (by rw [hz]; simp)
            simp [Num.dg9, List.range, List.range.loop] at h9
          have hDb : some D ≠ some wr.heap.size := by
            intro e
            injection e with e
            rcases hI with h | h
            · obtain ⟨_, v, hb, _⟩ := h
              rw [← e, hK] at hb
              cases hb
            · obtain ⟨_, v, hb, _⟩ := h
              rw [← e, hK] at hb
              cases hb
          have HI := Aside0.mk (Lib.IsBuilderF.of hI)
          have HBB := Aside0.mk hB
          have HDK := Aside0.mk hK
          have HDD := Aside0.mk hD
          have HDB := Aside0.mk hDb
          have HL0 := Aside0.mk hl0
          clear hI hB hK hD hDb hl0 hys hbx' hg4'
          go_wp2_with (first | (go_at_call 40; refine (Tryd.Builder_String_k w.heap.size wr.heap.size _ W HI.out HL0.out).mono ?_; rintro e W4 ⟨rfl, _, hb4, hok4⟩; have HB4 := Aside0.mk hb4; have HK4 := Aside0.mk (hok4 D _ HDK.out HDB.out (fun c fz h => by cases h)); clear hb4 hok4) | (go_at_call 39; refine (Tryd.strings_TrimLeft_one _ 48 (by decide) _).mono ?_; rintro e W5 ⟨rfl, rfl⟩))
          refine ⟨by simp, .inl ⟨_, _, rfl, run_takeDeferred HK4.out, ?_⟩⟩
          refine ⟨_, results_tmp rfl _ _ _, ?_, ((HBB.out.trans HB4.out).trans (belowK_b (w := w) (Nat.le_refl _) _ D _ _ (by have := HDD.out; have := hBW0.size; omega) HK4.out rfl rfl))⟩
          unfold Num.textN
          rw [if_neg HV.out, ← HPL.out]
          rfl
        case stop =>
          rintro D c pre W _ _ h _
          exact h.elim
      · have hposm : 0 < ml.length := List.length_pos_iff.2 hml
        obtain ⟨g, c3, e3, gb, gl, cl, HG⟩ := Kd.R_form HO.out hposm
        subst e3
        obtain ⟨A4, c4, e4⟩ := Kd.R_slice HP.out
        subst e4
        have GB := Aside0.mk gb
        have GL := Aside0.mk gl
        clear gb gl HG
        have hp0 : decide (0 < (ml.length : Int)) = true := decide_eq_true (by omega)
        have hp1 : decide (0 < ml.length) = true := decide_eq_true hposm
        have hml1 : (ml.length : Int) ≤ 1000000 := by have := HLM.out; omega
        have hml2 : 0 < (ml.length : Int) := by omega
        go_wp2
        go_loopg [5, 6] ml.length (fun jq v5 v6 w' => ∃ (cur : List Int) (r : Int), v5 = .int .u32 r ∧ v6 = .int .i64 ((jq : Int) - 1) ∧ Aside0 (jq ≤ ml.length) ∧ Aside0 (cur.length = ml.length) ∧ Aside0 (cur.take jq = ml.take jq) ∧ Aside0 (cur.drop jq = (Num.shq 1000000000 (ml.drop jq)).1) ∧ Aside0 (r = (Num.shq 1000000000 (ml.drop jq)).2) ∧ Aside0 (Kd.R (Kd.int .u32) 38 w' w.heap.size (fun k_ => True ∧ some k_ ≠ (Value.slice A4 pl.length c4).ownBlock) (.slice (some ⟨g, 0, none⟩) ml.length c3) cur) ∧ Aside0 (Kd.R (Kd.int .u32) 38 w' w.heap.size (fun k_ => some k_ ≠ (Value.slice (some ⟨g, 0, none⟩) ml.length c3).ownBlock) (.slice A4 pl.length c4) pl) ∧ Aside0 (Below w.heap.size w w'))
        case atStart => exact ⟨ml, 0, rfl, rfl, ⟨Nat.le_refl _⟩, ⟨rfl⟩, ⟨rfl⟩, ⟨by simp [Num.shq]⟩, ⟨by simp [Num.shq]⟩, HO, HP, HB⟩
        case round =>
          clear HO HP HB
          obtain ⟨cur, r, rfl, rfl, HJ, HCL, HT, HD, HRR, HO, HP, HB⟩ := hrel
          have hr := Num.shq_rest (d := 1000000000) (by decide) (ml.drop gk)
          rw [← HRR.out] at hr
          cases gk with
          | zero =>
            have e0 : (((0 : Nat) : Int) - 1) = -1 := by decide
            rw [e0]
            have hD : cur = (Num.shq 1000000000 ml).1 := by simpa using HD.out
            have hR : r = (Num.shq 1000000000 ml).2 := by simpa using HRR.out
            have HS := Aside0.mk (pcs_step HWM.out HNM.out hml hD hR HPC.out HPB.out)
            have HPLB := Aside0.mk (pl_bound (show Num.valN ml ≠ 0 from fun h => hml (by rw [← HNM.out]; exact (Num.valN_zero HWM.out).1 h)) HPB.out (Num.valN_lt HOK.out))
            obtain ⟨hr0, hr1⟩ := hr
            clear hD hR HD HRR HT
            have hgl : g < wr.heap.size := Kd.R_lt HO.out g rfl
            have HGL := Aside0.mk hgl
            clear hgl
            go_wp2_with (first | ((with_reducible refine gate_builtin (b := .append) (xs := #[.tmp 38, .tmp 40]) rfl ?_); at_builtin; refine Kd.R_append (Kd.int .u32) (w0 := w) w.heap.size rfl (.tmp 38) (.tmp 40) 23 38 (.int .u32 0) 4 rfl Tryd.underlying23 info38 rfl (by decide) (by omega) (.slice A4 pl.length c4) pl r [.int .u32 r] (fun k_ => some k_ ≠ (Value.slice (some ⟨g, 0, none⟩) ml.length c3).ownBlock) (fun _ => False) rfl rfl ?aP (fun _ hk => hk.elim) ?aF HP.out HB.out ?aS ?aL ?_; (case aP => exact rfl); (case aF => intro k_ h_ e_; have h2_ := HGL.out; simp [Value.ownBlock] at e_; omega); (case aS => exact HB.out.size); (case aL => have h1_ := HPLB.out; have h2_ := HLEN.out; omega); intro v5 w5 ho hb hg hat; have HO5 := Aside0.mk (Kd.R_after HO.out hg hat); have HB5 := Aside0.mk hb; obtain ⟨A5, c5, e5⟩ := Kd.R_slice ho; subst e5; have HP5 := Aside0.mk ho; clear ho hb hg hat HO HP HB) | (go_at_call 35; refine (trim_at' (some ⟨g, 0, none⟩) c3 ml.length cur _ HCL.out (Kd.R_reads' HO5.out).2.2 (by have h1_ := (Kd.R_reads' HO5.out).2.1; have h2_ := HCL.out; omega)).mono ?_; rintro e w6 ⟨rfl, rfl⟩))
            have HTL := Aside0.mk (Num.trimW_length_le cur)
            have HT5 := Aside0.mk (Kd.R_take (m := (Num.trimW cur).length) HO5.out HTL.out)
            rw [← Num.trimW_take, show (pl ++ [r]).length = pl.length + 1 from by simp] at HT5
            rw [show (pl ++ [r]).length = pl.length + 1 from by simp] at HP5
            go_roundg (Num.valN (Num.trimW cur))
            case measure => have h1_ := HS.out.2.1; have h2_ := HVM.out; omega
            case rel => exact ⟨Num.trimW cur, pl ++ [r], ⟨HS.out.1⟩, ⟨Num.normed_trim cur⟩, ⟨by have h1_ := HTL.out; have h2_ := HCL.out; have h3_ := HLM.out; omega⟩, ⟨rfl⟩, ⟨HS.out.2.2.1⟩, ⟨HS.out.2.2.2⟩, HT5, ⟨HP5.out⟩, HB5⟩
          | succ j =>
            have hj := HJ.out
            have hjl : (j : Int) < (ml.length : Int) := by omega
            have e0 : (((j + 1 : Nat) : Int) - 1) = (j : Int) := by omega
            rw [e0]
            obtain ⟨x, hx⟩ : ∃ x, x = ml[j] := ⟨_, rfl⟩
            have hxr : 0 ≤ x ∧ x < 4294967296 := by rw [hx]; exact HWM.out _ (List.getElem_mem _)
            obtain ⟨hxr0, hxr1⟩ := hxr
            obtain ⟨hr0, hr1⟩ := hr
            have hcurx := cur_get HCL.out (by omega) HT.out
            rw [← hx] at hcurx
            obtain ⟨hcell, hfro⟩ := Kd.R_celln 0 HO.out (j : Int) (by omega) (by omega)
            rw [Int.toNat_natCast] at hcell hfro
            rw [hcurx] at hcell
            have HX := Aside0.mk hx
            clear hx hcurx
            obtain ⟨q, hq⟩ : ∃ q, q = (r * 4294967296 + x) / 1000000000 := ⟨_, rfl⟩
            obtain ⟨r2, hr2⟩ : ∃ r2, r2 = (r * 4294967296 + x) % 1000000000 := ⟨_, rfl⟩
            have HQ := Aside0.mk hq
            have HR2 := Aside0.mk hr2
            have HF : Aside0 (bits_Div32.f r x 1000000000 = some (q, r2)) := ⟨by unfold bits_Div32.f; rw [if_pos ⟨hr0, by omega, hxr0, hxr1, by decide⟩, ← hq, ← hr2]⟩
            clear hq hr2
            have hjb : (j : Int) ≤ 1000000 := by omega
            go_wp2_with (go_at_call 34; refine (bits_Div32.calls r x 1000000000 q r2 _ HF.out).mono ?_; rintro e w2 ⟨rfl, ⟨nd, hnd⟩⟩; have HO2 := Aside0.mk (show Kd.R (Kd.int .u32) 38 w2 w.heap.size (fun k_ => True ∧ some k_ ≠ (Value.slice A4 pl.length c4).ownBlock) (.slice (some ⟨g, 0, none⟩) ml.length c3) cur from by rw [hnd]; exact Kd.R_drewN HO.out nd); have HP2 := Aside0.mk (show Kd.R (Kd.int .u32) 38 w2 w.heap.size (fun k_ => some k_ ≠ (Value.slice (some ⟨g, 0, none⟩) ml.length c3).ownBlock) (.slice A4 pl.length c4) pl from by rw [hnd]; exact Kd.R_drewN HP.out nd); have HB2 := Aside0.mk (show Below w.heap.size w w2 from by rw [hnd]; exact pw_below_drewN HB.out nd); have hcell2 : w2.cell? ⟨g, j, none⟩ = some (.int .u32 x) := (by rw [hnd]; exact hcell); have hfro2 : w2.frozen? ⟨g, j, none⟩ = false := (by rw [hnd]; exact hfro); clear hnd hcell hfro HO HP HB)
            have HPUT := Aside0.mk (Kd.R_putg HO2.out (j : Int) q)
            rw [Int.toNat_natCast] at HPUT
            go_roundg j
            case measure => omega
            case rel =>
              refine ⟨cur.set j q, r2, rfl, by first | rfl | simp, ⟨by omega⟩, ⟨by rw [List.length_set]; exact HCL.out⟩, ⟨?_⟩, ⟨?_⟩, ⟨?_⟩, ⟨HPUT.out.1⟩, ⟨Kd.R_grown HP2.out HPUT.out.2 (fun k_ h_ => h_)⟩, ⟨below_set HB2.out GB.out⟩⟩
              · exact cur_take q HT.out
              · rw [cur_drop (cur := cur) (j := j) q (by have h1_ := HCL.out; have h2_ := HJ.out; omega), HD.out, shq_cons_step 1000000000 ml j (by have h2_ := HJ.out; omega), HQ.out, HX.out, HRR.out]
              · rw [shq_cons_step 1000000000 ml j (by have h2_ := HJ.out; omega), HR2.out, HX.out, HRR.out]
end
def nat_Text.f (l0 : List Int) : Option ByteArray := if (l0.all fun x => decide (0 ≤ x) && decide (x < 4294967296)) = true ∧ l0.length ≤ 1000000 then some ⟨(Num.textN (Num.valN l0)).toArray⟩ else none
theorem nat_Text.calls (A0 : Option Addr) (c0 : Nat) (l0 : List Int) (r : ByteArray) (w : World) (hr0 : Kd.C (Kd.int .u32) w A0 l0.length l0) (hc0 : l0.length ≤ c0) (h : nat_Text.f l0 = some r) :
    Calls Tryd.prog 13 #[.slice A0 l0.length c0] w fun e w' => e = .returned (.string r) ∧ Below w.heap.size w w' := by
  unfold nat_Text.f at h
  by_cases hc : (l0.all fun x => decide (0 ≤ x) && decide (x < 4294967296)) = true ∧ l0.length ≤ 1000000
  · rw [if_pos hc] at h
    obtain rfl := Option.some.inj h
    refine text_any A0 c0 l0 w hr0 hc0 (fun x hx => ?_) hc.2
    have := List.all_eq_true.1 hc.1 x hx
    simpa using this
  · rw [if_neg hc] at h
    exact absurd h (by simp)

end Go.Proofs.YtkihjfpfocnneaaDoor.PNat

namespace Go.Proofs.YtkihjfpfocnneaaDoor.PNat
open Go.RowKit Go.Proofs.YtkihjfpfocnneaaDoorW.PrintWords Go.Proofs.YtkihjfpfocnneaaDoorW.PrintLast Go.Proofs.YtkihjfpfocnneaaDoorW.PrintMore
attribute [local go_sem] max2_int min2_int max_two min_two max_three min_three max_four min_four   -- for this text's walks alone
set_option linter.unusedVariables false
set_option linter.unusedSimpArgs false

/-! ### bobbinlaw2_awake: function 9 -/
def bobbinlaw2_awake.f (k : Nat)  : Option (Bool) := (nat_Parse.f k (⟨#[52, 50, 57, 52, 57, 54, 55, 50, 57, 54]⟩ : ByteArray)).bind fun bt130 => (if bt130.2 = 0 then ((bobbinlaw2_same.f k bt130.1 (([0, 1] : List Int))).bind fun t137 => (if t137 = true then ((nat_Text.f bt130.1).bind fun t138 => (some (t138.toList == ([52, 50, 57, 52, 57, 54, 55, 50, 57, 54] : List UInt8)))) else (some false))) else (some false))
theorem bobbinlaw2_awake.mono : ∀ k, LeO (bobbinlaw2_awake.f k ) (bobbinlaw2_awake.f (k + 1) ) := by
  intro  k
  unfold bobbinlaw2_awake.f
  repeat' first
      | (with_reducible exact bobbinlaw2_same.mono _ _ _)
      | (with_reducible exact nat_Parse.mono _ _)
      | (with_reducible exact LeO.refl _)
      | (with_reducible exact LeO.none _)
      | (with_reducible refine LeO.ite ?_ ?_)
      | (with_reducible refine LeO.bind ?_ (fun _ => ?_))
      | exact bobbinlaw2_same.mono _ _ _
      | exact nat_Parse.mono _ _
      | exact LeO.none _
      | refine LeO.ite ?_ ?_
      | refine LeO.bind ?_ (fun _ => ?_)
set_option maxHeartbeats 8000000 in
set_option maxRecDepth 100000 in
theorem bobbinlaw2_awake.calls (k : Nat)  (r : Bool) (w : World) (h : bobbinlaw2_awake.f k  = some r) :
    Calls Tryd.prog 9 #[] w fun e w' => e = .returned (.bool r) ∧ Below w.heap.size w w' := by
  have HB := Aside0.mk (Below.refl w.heap.size w)
  have H : ((nat_Parse.f k (⟨#[52, 50, 57, 52, 57, 54, 55, 50, 57, 54]⟩ : ByteArray)).bind fun bt130 => (if bt130.2 = 0 then ((bobbinlaw2_same.f k bt130.1 (([0, 1] : List Int))).bind fun t137 => (if t137 = true then ((nat_Text.f bt130.1).bind fun t138 => (some (t138.toList == ([52, 50, 57, 52, 57, 54, 55, 50, 57, 54] : List UInt8)))) else (some false))) else (some false))) = some r := h
  clear h
  replace H := Option.bind_eq_some_iff.mp H
  obtain ⟨⟨t130, t133⟩, A10, H⟩ := H
  replace H : (if t133 = 0 then ((bobbinlaw2_same.f k t130 (([0, 1] : List Int))).bind fun t137 => (if t137 = true then ((nat_Text.f t130).bind fun t138 => (some (t138.toList == ([52, 50, 57, 52, 57, 54, 55, 50, 57, 54] : List UInt8)))) else (some false))) else (some false)) = some r := H
  have A1 := Aside0.mk A10
  clear A10
  by_cases c2 : t133 = 0
  · rw [if_pos c2] at H
    have c2b0 : (t133 == 0) = true := beq_iff_eq.mpr c2
    have c2b1 : (t133 != 0) = false := bne_eq_false_iff_eq.mpr c2
    clear c2
    obtain ⟨y134, hy134⟩ : ∃ y_ : List Int, y_ = (([0, 1] : List Int)) := ⟨_, rfl⟩
    replace H : ((bobbinlaw2_same.f k t130 y134).bind fun t137 => (if t137 = true then ((nat_Text.f t130).bind fun t138 => (some (t138.toList == ([52, 50, 57, 52, 57, 54, 55, 50, 57, 54] : List UInt8)))) else (some false))) = some r := by first | (rw [hy134]; with_reducible exact H) | (have H2_ := (Option.bind_some _ _).symm.trans H; rw [hy134]; with_reducible exact H2_) | (have H2_ := (Option.bind_some _ _).symm.trans H; with_reducible exact H2_) | with_reducible exact H | (rw [hy134]; exact H) | exact H
    have Ny134 := Aside0.mk hy134
    clear hy134
    replace H := Option.bind_eq_some_iff.mp H
    obtain ⟨t137, A30, H⟩ := H
    replace H : (if t137 = true then ((nat_Text.f t130).bind fun t138 => (some (t138.toList == ([52, 50, 57, 52, 57, 54, 55, 50, 57, 54] : List UInt8)))) else (some false)) = some r := H
    have A3 := Aside0.mk A30
    clear A30
    by_cases c4 : t137 = true
    · subst c4
      have H1 : ((nat_Text.f t130).bind fun t138 => (some (t138.toList == ([52, 50, 57, 52, 57, 54, 55, 50, 57, 54] : List UInt8)))) = some r := by rw [if_pos rfl] at H; exact H
      clear H
      have H := H1
      clear H1
      replace H := Option.bind_eq_some_iff.mp H
      obtain ⟨t138, A50, H⟩ := H
      replace H : (some (t138.toList == ([52, 50, 57, 52, 57, 54, 55, 50, 57, 54] : List UInt8))) = some r := H
      have A5 := Aside0.mk A50
      clear A50
      obtain rfl := Option.some.inj H
      go_enter Tryd.func9, Tryd.ntmps9
      go_wp2_with (first | ((with_reducible refine gate_callee (f := 10) rfl ?_); refine goesL_ (some 4) rfl rfl Tryd.func10 (by kernel_rfl) rfl #[.string (⟨#[52, 50, 57, 52, 57, 54, 55, 50, 57, 54]⟩ : ByteArray)] rfl (by (try simp only [List.map_toArray, List.map_cons, List.map_nil]); first | done | rfl | (simp only [List.length_drop, List.length_take]; rfl)) ?_; (with_reducible refine (nat_Parse.calls k (⟨#[52, 50, 57, 52, 57, 54, 55, 50, 57, 54]⟩ : ByteArray) t130 t133 _ A1.out).mono ?_); rintro e w6 ⟨v131, rfl, ho0, hb⟩; refine ⟨_, rfl, ?_⟩; have n0_ := Aside0.mk (Kd.V_lower (Kd.V_mono (ok' := fun k_ => True) ho0 (fun k_ hk_ => trivial)) (below_size (by repeat (first | (with_reducible first | exact HB.out | apply below_alloc | apply pw_below_drewN | apply below_drew1) | exact HB.out)))); have n1_ := Aside0.mk (below_step (by repeat (first | (with_reducible first | exact HB.out | apply below_alloc | apply pw_below_drewN | apply below_drew1) | exact HB.out)) hb); clear HB; have HO132 := n0_; have HB := n1_; clear n0_ n1_; (try clear hb); (try clear hb2); (try clear hk); (try clear hi); (try clear ho0)) | ((with_reducible refine gate_dst (N := 11) rfl ?_); (try (refine gate_guard (by rfl) ?_; dsimp only)); refine Kd.R_lit (Kd.int .u32) _ 38 ?hg (N := 11) ?hd (xs := ([0, 1] : List Int)) (inner := [.int .u32 0, .int .u32 1]) (ok := fun _ => True) (okp := fun _ => True) ?hr ?hp (fun _ hk => hk) trivial (Below.refl _ _) (Nat.le_refl _) (by simp) ?_; (case hd => rfl); (case hg => rfl); (case hr => first | (go_simp; done) | (go_simp; rfl)); (case hp => exact (Reps.one (show Kd.M (Kd.int .u32) _ _ _ 0 [.int .u32 0] from rfl) (Reps.one (show Kd.M (Kd.int .u32) _ _ _ 1 [.int .u32 1] from rfl) (Reps.none _ _)))); intro v135 w7 ho8 hb hg_ hnew_; clear hg_ hnew_; (first | rw [← Ny134.out] at ho8 | (simp only [Int.reduceToNat] at ho8; rw [← Ny134.out] at ho8)); have n0_ := Aside0.mk (Kd.V_elder' (by (with_reducible repeat (first | apply Kd.V_alloc | apply Kd.V_drewN | apply Kd.V_drew)); exact HO132.out) (Kd.R_base ho8) hb); have n1_ := Aside0.mk (Kd.R_lower ho8 (below_size (by repeat (first | (with_reducible first | exact HB.out | apply below_alloc | apply pw_below_drewN | apply below_drew1) | exact HB.out)))); have n2_ := Aside0.mk (below_step (by repeat (first | (with_reducible first | exact HB.out | apply below_alloc | apply pw_below_drewN | apply below_drew1) | exact HB.out)) hb); clear HO132; clear HB; have HO132 := n0_; have HO136 := n1_; have HB := n2_; clear n0_ n1_ n2_; clear hb ho8; obtain ⟨Ao9, co9, eo9⟩ := Kd.V_slice HO132.out; subst eo9; obtain ⟨Ao10, co10, eo10⟩ := Kd.R_slice HO136.out; subst eo10) | (go_at_call 12; (with_reducible refine (bobbinlaw2_same.calls k _ _ t130 _ _ y134 true _ ?side1 ?side2 ?side3 ?side4 A3.out).mono ?_); (case side1 => repeat (first | exact (Kd.V_reads' HO132.out).2.2 | (with_reducible refine Kd.C_alloc ?_ _) | (with_reducible refine Kd.C_drewN ?_ _) | (with_reducible refine Kd.C_drew ?_))); (case side2 => exact (Kd.V_reads' HO132.out).2.1); (case side3 => repeat (first | exact (Kd.R_reads' HO136.out).2.2 | (with_reducible refine Kd.C_alloc ?_ _) | (with_reducible refine Kd.C_drewN ?_ _) | (with_reducible refine Kd.C_drew ?_))); (case side4 => exact (Kd.R_reads' HO136.out).2.1); rintro e w' ⟨rfl, ⟨nd, rfl⟩⟩) | (go_at_call 13; (with_reducible refine (nat_Text.calls _ _ t130 t138 _ ?side1 ?side2 A5.out).mono ?_); (case side1 => repeat (first | exact (Kd.V_reads' HO132.out).2.2 | (with_reducible refine Kd.C_alloc ?_ _) | (with_reducible refine Kd.C_drewN ?_ _) | (with_reducible refine Kd.C_drew ?_))); (case side2 => exact (Kd.V_reads' HO132.out).2.1); rintro e w11 ⟨rfl, hb⟩; have n0_ := Aside0.mk (Kd.V_below (by (with_reducible repeat (first | apply Kd.V_alloc | apply Kd.V_drewN | apply Kd.V_drew)); exact HO132.out) hb); have n1_ := Aside0.mk (Kd.R_below (by (with_reducible repeat (first | apply Kd.R_alloc | apply Kd.R_drewN | apply Kd.R_drew)); exact HO136.out) hb); have n2_ := Aside0.mk (below_step (by repeat (first | (with_reducible first | exact HB.out | apply below_alloc | apply pw_below_drewN | apply below_drew1) | exact HB.out)) hb); clear HO132; clear HO136; clear HB; have HO132 := n0_; have HO136 := n1_; have HB := n2_; clear n0_ n1_ n2_; (try clear hb); (try clear hb2); (try clear hk); (try clear hi)))
      go_ret
      exact ⟨by first | rfl | (simp [errW_none, errW_some] <;> rfl) | (simp [*, errW_none, errW_some] <;> rfl), by repeat (first | (with_reducible first | exact HB.out | apply below_alloc | apply pw_below_drewN | apply below_drew1) | exact HB.out)⟩
    · replace c4 := Bool.eq_false_iff.mpr c4
      subst c4
      have H1 : (some false) = some r := by rw [if_neg (show ¬ (false = true) by decide)] at H; exact H
      clear H
      have H := H1
      clear H1
      obtain rfl := Option.some.inj H
      go_enter Tryd.func9, Tryd.ntmps9
      go_wp2_with (first | ((with_reducible refine gate_callee (f := 10) rfl ?_); refine goesL_ (some 4) rfl rfl Tryd.func10 (by kernel_rfl) rfl #[.string (⟨#[52, 50, 57, 52, 57, 54, 55, 50, 57, 54]⟩ : ByteArray)] rfl (by (try simp only [List.map_toArray, List.map_cons, List.map_nil]); first | done | rfl | (simp only [List.length_drop, List.length_take]; rfl)) ?_; (with_reducible refine (nat_Parse.calls k (⟨#[52, 50, 57, 52, 57, 54, 55, 50, 57, 54]⟩ : ByteArray) t130 t133 _ A1.out).mono ?_); rintro e w12 ⟨v131, rfl, ho0, hb⟩; refine ⟨_, rfl, ?_⟩; have n0_ := Aside0.mk (Kd.V_lower (Kd.V_mono (ok' := fun k_ => True) ho0 (fun k_ hk_ => trivial)) (below_size (by repeat (first | (with_reducible first | exact HB.out | apply below_alloc | apply pw_below_drewN | apply below_drew1) | exact HB.out)))); have n1_ := Aside0.mk (below_step (by repeat (first | (with_reducible first | exact HB.out | apply below_alloc | apply pw_below_drewN | apply below_drew1) | exact HB.out)) hb); clear HB; have HO132 := n0_; have HB := n1_; clear n0_ n1_; (try clear hb); (try clear hb2); (try clear hk); (try clear hi); (try clear ho0)) | ((with_reducible refine gate_dst (N := 11) rfl ?_); (try (refine gate_guard (by rfl) ?_; dsimp only)); refine Kd.R_lit (Kd.int .u32) _ 38 ?hg (N := 11) ?hd (xs := ([0, 1] : List Int)) (inner := [.int .u32 0, .int .u32 1]) (ok := fun _ => True) (okp := fun _ => True) ?hr ?hp (fun _ hk => hk) trivial (Below.refl _ _) (Nat.le_refl _) (by simp) ?_; (case hd => rfl); (case hg => rfl); (case hr => first | (go_simp; done) | (go_simp; rfl)); (case hp => exact (Reps.one (show Kd.M (Kd.int .u32) _ _ _ 0 [.int .u32 0] from rfl) (Reps.one (show Kd.M (Kd.int .u32) _ _ _ 1 [.int .u32 1] from rfl) (Reps.none _ _)))); intro v135 w13 ho14 hb hg_ hnew_; clear hg_ hnew_; (first | rw [← Ny134.out] at ho14 | (simp only [Int.reduceToNat] at ho14; rw [← Ny134.out] at ho14)); have n0_ := Aside0.mk (Kd.V_elder' (by (with_reducible repeat (first | apply Kd.V_alloc | apply Kd.V_drewN | apply Kd.V_drew)); exact HO132.out) (Kd.R_base ho14) hb); have n1_ := Aside0.mk (Kd.R_lower ho14 (below_size (by repeat (first | (with_reducible first | exact HB.out | apply below_alloc | apply pw_below_drewN | apply below_drew1) | exact HB.out)))); have n2_ := Aside0.mk (below_step (by repeat (first | (with_reducible first | exact HB.out | apply below_alloc | apply pw_below_drewN | apply below_drew1) | exact HB.out)) hb); clear HO132; clear HB; have HO132 := n0_; have HO136 := n1_; have HB := n2_; clear n0_ n1_ n2_; clear hb ho14; obtain ⟨Ao15, co15, eo15⟩ := Kd.V_slice HO132.out; subst eo15; obtain ⟨Ao16, co16, eo16⟩ := Kd.R_slice HO136.out; subst eo16) | (go_at_call 12; (with_reducible refine (bobbinlaw2_same.calls k _ _ t130 _ _ y134 false _ ?side1 ?side2 ?side3 ?side4 A3.out).mono ?_); (case side1 => repeat (first | exact (Kd.V_reads' HO132.out).2.2 | (with_reducible refine Kd.C_alloc ?_ _) | (with_reducible refine Kd.C_drewN ?_ _) | (with_reducible refine Kd.C_drew ?_))); (case side2 => exact (Kd.V_reads' HO132.out).2.1); (case side3 => repeat (first | exact (Kd.R_reads' HO136.out).2.2 | (with_reducible refine Kd.C_alloc ?_ _) | (with_reducible refine Kd.C_drewN ?_ _) | (with_reducible refine Kd.C_drew ?_))); (case side4 => exact (Kd.R_reads' HO136.out).2.1); rintro e w' ⟨rfl, ⟨nd, rfl⟩⟩))
      go_ret
      exact ⟨by first | rfl | (simp [errW_none, errW_some] <;> rfl) | (simp [*, errW_none, errW_some] <;> rfl), by repeat (first | (with_reducible first | exact HB.out | apply below_alloc | apply pw_below_drewN | apply below_drew1) | exact HB.out)⟩
  · rw [if_neg c2] at H
    have c2b0 : (t133 == 0) = false := beq_eq_false_iff_ne.mpr c2
    have c2b1 : (t133 != 0) = true := bne_iff_ne.mpr c2
    obtain rfl := Option.some.inj H
    go_enter Tryd.func9, Tryd.ntmps9
    go_wp2_with (first | ((with_reducible refine gate_callee (f := 10) rfl ?_); refine goesL_ (some 4) rfl rfl Tryd.func10 (by kernel_rfl) rfl #[.string (⟨#[52, 50, 57, 52, 57, 54, 55, 50, 57, 54]⟩ : ByteArray)] rfl (by (try simp only [List.map_toArray, List.map_cons, List.map_nil]); first | done | rfl | (simp only [List.length_drop, List.length_take]; rfl)) ?_; (with_reducible refine (nat_Parse.calls k (⟨#[52, 50, 57, 52, 57, 54, 55, 50, 57, 54]⟩ : ByteArray) t130 t133 _ A1.out).mono ?_); rintro e w17 ⟨v131, rfl, ho0, hb⟩; refine ⟨_, rfl, ?_⟩; have n0_ := Aside0.mk (Kd.V_lower (Kd.V_mono (ok' := fun k_ => True) ho0 (fun k_ hk_ => trivial)) (below_size (by repeat (first | (with_reducible first | exact HB.out | apply below_alloc | apply pw_below_drewN | apply below_drew1) | exact HB.out)))); have n1_ := Aside0.mk (below_step (by repeat (first | (with_reducible first | exact HB.out | apply below_alloc | apply pw_below_drewN | apply below_drew1) | exact HB.out)) hb); clear HB; have HO132 := n0_; have HB := n1_; clear n0_ n1_; (try clear hb); (try clear hb2); (try clear hk); (try clear hi); (try clear ho0)))
    go_ret
    exact ⟨by first | rfl | (simp [errW_none, errW_some] <;> rfl) | (simp [*, errW_none, errW_some] <;> rfl), by repeat (first | (with_reducible first | exact HB.out | apply below_alloc | apply pw_below_drewN | apply below_drew1) | exact HB.out)⟩

end Go.Proofs.YtkihjfpfocnneaaDoor.PNat

namespace Go.Proofs.YtkihjfpfocnneaaDoor.PNat
open Go.RowKit Go.Proofs.YtkihjfpfocnneaaDoorW.PrintWords Go.Proofs.YtkihjfpfocnneaaDoorW.PrintLast Go.Proofs.YtkihjfpfocnneaaDoorW.PrintMore
attribute [local go_sem] max2_int min2_int max_two min_two max_three min_three max_four min_four   -- for this text's walks alone
set_option linter.unusedVariables false
set_option linter.unusedSimpArgs false

/-! ### nat_moved: function 44 -/
def nat_moved.l0 : Nat → Int → List Int → List Int → Int → Int → Option (List Int)
  | 0, _, _, _, _, _ => none
  | k + 1, x1, x5, x13, x14, x15 => if x15 < x14 then (if 0 ≤ x15 then (if x15 < (x13.length : Int) then (if 0 ≤ x1 then (if x15 < (x5.length : Int) then (if 0 ≤ (wrap64 (x15 + 1)) then (if (wrap64 (x15 + 1)) < (x5.length : Int) then (nat_moved.l0 k x1 ((x5.set (x15 : Int).toNat (Go.bits .or .u32 (rd x5 x15) ((shl .u64 (IntKind.u64.wrap (rd x13 x15)) x1) % 4294967296))).set ((wrap64 (x15 + 1)) : Int).toNat (((shl .u64 (IntKind.u64.wrap (rd x13 x15)) x1) / 4294967296) % 4294967296)) x13 x14 (wrap64 (x15 + 1))) else (none)) else (none)) else (none)) else (none)) else (none)) else (none)) else (some x5)
def nat_moved.f (k : Nat) (l0 : List Int) (a1 : Int) : Option (List Int) := if 0 ≤ (wrap64 ((l0.length : Int) + 1)) then (if (wrap64 ((l0.length : Int) + 1) : Int).toNat ≤ 70368744177664 then (nat_moved.l0 k a1 (List.replicate (wrap64 ((l0.length : Int) + 1) : Int).toNat 0) l0 (l0.length : Int) 0) else (none)) else (none)
theorem nat_moved.mono_l : ∀ k, (∀ y0 y1 y2 y3 y4, LeO (nat_moved.l0 k y0 y1 y2 y3 y4) (nat_moved.l0 (k + 1) y0 y1 y2 y3 y4))
  | 0 => fun _ _ _ _ _ r h => by simp [nat_moved.l0] at h
  | k + 1 => by
    have ih0 := nat_moved.mono_l k
    · intro y0 y1 y2 y3 y4
      unfold nat_moved.l0
      repeat' first
      | (with_reducible exact ih0 _ _ _ _ _)
      | (with_reducible exact LeO.refl _)
      | (with_reducible exact LeO.none _)
      | (with_reducible refine LeO.ite ?_ ?_)
      | (with_reducible refine LeO.bind ?_ (fun _ => ?_))
      | exact ih0 _ _ _ _ _
      | exact LeO.none _
      | refine LeO.ite ?_ ?_
      | refine LeO.bind ?_ (fun _ => ?_)
theorem nat_moved.mono : ∀ a0 a1 k, LeO (nat_moved.f k a0 a1) (nat_moved.f (k + 1) a0 a1) := by
  intro a0 a1 k
  have ih0 := nat_moved.mono_l k
  unfold nat_moved.f
  repeat' first
      | (with_reducible exact ih0 _ _ _ _ _)
      | (with_reducible exact LeO.refl _)
      | (with_reducible exact LeO.none _)
      | (with_reducible refine LeO.ite ?_ ?_)
      | (with_reducible refine LeO.bind ?_ (fun _ => ?_))
      | exact ih0 _ _ _ _ _
      | exact LeO.none _
      | refine LeO.ite ?_ ?_
      | refine LeO.bind ?_ (fun _ => ?_)
set_option maxHeartbeats 8000000 in
set_option maxRecDepth 100000 in
theorem nat_moved.calls (k : Nat) (A0 : Option Addr) (c0 : Nat) (l0 : List Int) (a1 : Int) (r : List Int) (w : World) (hr0 : Kd.C (Kd.int .u32) w A0 l0.length l0) (hc0 : l0.length ≤ c0) (h : nat_moved.f k l0 a1 = some r) :
    Calls Tryd.prog 44 #[.slice A0 l0.length c0, .int .i64 a1] w fun e w' => ∃ v0_ : Value, e = .returned (v0_) ∧ Kd.R (Kd.int .u32) 38 w' w.heap.size (fun _ => True) v0_ r ∧ Below w.heap.size w w' := by
  have HR0 := Aside0.mk hr0
  have HC0 := Aside0.mk hc0
  clear hr0 hc0
  have HB := Aside0.mk (Below.refl w.heap.size w)
  have H : (if 0 ≤ (wrap64 ((l0.length : Int) + 1)) then (if (wrap64 ((l0.length : Int) + 1) : Int).toNat ≤ 70368744177664 then (nat_moved.l0 k a1 (List.replicate (wrap64 ((l0.length : Int) + 1) : Int).toNat 0) l0 (l0.length : Int) 0) else (none)) else (none)) = some r := h
  clear h
  obtain ⟨ji3, hji3⟩ : ∃ j_ : Int, (wrap64 ((l0.length : Int) + 1)) = j_ := ⟨_, rfl⟩
  replace H : (if 0 ≤ (ji3) then (if (ji3 : Int).toNat ≤ 70368744177664 then (nat_moved.l0 k a1 (List.replicate (ji3 : Int).toNat 0) l0 (l0.length : Int) 0) else (none)) else (none)) = some r := by first | (rw [hji3] at H; exact H) | (simp only [hji3] at H ⊢; exact H)
  have hji3w : (IntKind.i64.wrap ((l0.length : Int) + 1)) = ji3 := (i64_w _).trans hji3
  by_cases c4 : 0 ≤ (ji3)
  · rw [if_pos c4] at H
    have c4b0 := eq_true c4
    have c4b1 : decide (0 ≤ (ji3)) = true := decide_eq_true c4
    clear c4
    by_cases c5 : (ji3 : Int).toNat ≤ 70368744177664
    · rw [if_pos c5] at H
      have c5b0 := eq_true c5
      have c5b1 : decide ((ji3 : Int).toNat ≤ 70368744177664) = true := decide_eq_true c5
      clear c5
      obtain ⟨y254, hy254⟩ : ∃ y_ : List Int, y_ = (List.replicate (ji3 : Int).toNat 0) := ⟨_, rfl⟩
      replace H : (nat_moved.l0 k a1 y254 l0 (l0.length : Int) 0) = some r := by first | (rw [hy254]; with_reducible exact H) | (have H2_ := (Option.bind_some _ _).symm.trans H; rw [hy254]; with_reducible exact H2_) | (have H2_ := (Option.bind_some _ _).symm.trans H; with_reducible exact H2_) | with_reducible exact H | (rw [hy254]; exact H) | exact H
      have Ny254 := Aside0.mk hy254
      clear hy254
      have H' := Aside0.mk H
      clear H
      go_enter Tryd.func44, Tryd.ntmps44
      go_wp2_with (first | ((with_reducible refine gate_dst (N := 12) rfl ?_); refine Kd.R_make (Kd.int .u32) _ 38 rfl (N := 12) rfl 23 _ _ rfl ji3 rfl rfl Tryd.underlying23 (.int .u32 0) 4 info38 rfl (by decide) (by omega) 0 (ok := fun _ => True) (okp := fun _ => True) rfl (fun _ hk => hk) trivial (of_decide_eq_true (by first | (with_reducible assumption) | assumption)) (Nat.le_trans (Nat.mul_le_mul_right _ (of_decide_eq_true (by first | (with_reducible assumption) | assumption) : ji3.toNat ≤ 70368744177664)) (by omega)) (Below.refl _ _) (Nat.le_refl _) ?_; intro v255 w6 ho7 hb hg_ hnew_; clear hg_ hnew_; (first | rw [← Ny254.out] at ho7 | (simp only [Int.reduceToNat] at ho7; rw [← Ny254.out] at ho7)); have n0_ := Aside0.mk (Kd.R_lower ho7 (below_size (by repeat (first | (with_reducible first | exact HB.out | apply below_alloc | apply pw_below_drewN | apply below_drew1) | exact HB.out)))); have n1_ := Aside0.mk (below_step (by repeat (first | (with_reducible first | exact HB.out | apply below_alloc | apply pw_below_drewN | apply below_drew1) | exact HB.out)) hb); clear HB; have HO256 := n0_; have HB := n1_; clear n0_ n1_; clear hb ho7))
      go_loopg [15] k (fun kq v15 w' => ∃ (x5_1 : List Int) (x15_1 : Int), v15 = .int .i64 x15_1 ∧ Aside0 (nat_moved.l0 kq a1 x5_1 l0 (l0.length : Int) x15_1 = some r) ∧ Aside0 (kq ≤ k) ∧ Aside0 (Kd.R (Kd.int .u32) 38 w' w.heap.size (fun _ => True) v255 x5_1) ∧ Aside0 (Below w.heap.size w w'))
      case atStart => exact ⟨(y254), (0), (by first | rfl | (simp; done) | (simp [*]; done)), H', ⟨Nat.le_refl _⟩, ⟨by (with_reducible repeat (first | apply Kd.R_alloc | apply Kd.R_drewN | apply Kd.R_drew)); exact HO256.out⟩, ⟨by repeat (first | (with_reducible first | exact HB.out | apply below_alloc | apply pw_below_drewN | apply below_drew1) | exact HB.out)⟩⟩
      case round =>
        clear H'
        try clear p2
        try clear c4
        try clear c4b0
        try clear c4b1
        try clear c5
        try clear c5b0
        try clear c5b1
        try clear p6
        obtain ⟨x5_1, x15_1, rfl, HA, HK1, HO_5, HB⟩ := hrel
        cases gk with
        | zero => exact absurd HA.out (by simp [nat_moved.l0])
        | succ k1 =>
          have H := HA.out
          clear HA
          simp only [nat_moved.l0] at H
          by_cases c8 : x15_1 < (l0.length : Int)
          · rw [if_pos c8] at H
            have c8b0 : decide (x15_1 < (l0.length : Int)) = true := decide_eq_true c8
            clear c8
            by_cases c9 : 0 ≤ x15_1
            · rw [if_pos c9] at H
              have c9b0 : decide (0 ≤ x15_1) = true := decide_eq_true c9
              clear c9
              by_cases c10 : x15_1 < (l0.length : Int)
              · rw [if_pos c10] at H
                have c10b0 : decide (x15_1 < (l0.length : Int)) = true := decide_eq_true c10
                clear c10
                by_cases c11 : 0 ≤ a1
                · rw [if_pos c11] at H
                  have c11b0 := eq_true c11
                  have c11b1 : decide (0 ≤ a1) = true := decide_eq_true c11
                  clear c11
                  obtain ⟨ji12, hji12⟩ : ∃ j_ : Int, (shl .u64 (IntKind.u64.wrap (rd l0 x15_1)) a1) = j_ := ⟨_, rfl⟩
                  replace H : (if x15_1 < (x5_1.length : Int) then (if 0 ≤ (wrap64 (x15_1 + 1)) then (if (wrap64 (x15_1 + 1)) < (x5_1.length : Int) then (nat_moved.l0 k1 a1 ((x5_1.set (x15_1 : Int).toNat (Go.bits .or .u32 (rd x5_1 x15_1) ((ji12) % 4294967296))).set ((wrap64 (x15_1 + 1)) : Int).toNat (((ji12) / 4294967296) % 4294967296)) l0 (l0.length : Int) (wrap64 (x15_1 + 1))) else (none)) else (none)) else (none)) = some r := by first | (rw [hji12] at H; exact H) | (simp only [hji12] at H ⊢; exact H)
                  have hji12_ : (IntKind.u64.wrap ((IntKind.u64.wrap (rd l0 x15_1)) * 2 ^ min a1.toNat 64)) = ji12 := hji12
                  have hji12z : a1 ≤ 64 → (IntKind.u64.wrap ((IntKind.u64.wrap (rd l0 x15_1)) * 2 ^ a1.toNat)) = ji12 := shl_small hji12
                  by_cases c13 : x15_1 < (x5_1.length : Int)
                  · rw [if_pos c13] at H
                    have c13b0 : decide (x15_1 < (x5_1.length : Int)) = true := decide_eq_true c13
                    clear c13
                    obtain ⟨y259, hy259⟩ : ∃ y_ : List Int, y_ = (x5_1.set (x15_1 : Int).toNat (Go.bits .or .u32 (rd x5_1 x15_1) ((ji12) % 4294967296))) := ⟨_, rfl⟩
                    replace H : (if 0 ≤ (wrap64 (x15_1 + 1)) then (if (wrap64 (x15_1 + 1)) < (x5_1.length : Int) then (nat_moved.l0 k1 a1 (y259.set ((wrap64 (x15_1 + 1)) : Int).toNat (((ji12) / 4294967296) % 4294967296)) l0 (l0.length : Int) (wrap64 (x15_1 + 1))) else (none)) else (none)) = some r := by first | (rw [hy259]; with_reducible exact H) | (have H2_ := (Option.bind_some _ _).symm.trans H; rw [hy259]; with_reducible exact H2_) | (have H2_ := (Option.bind_some _ _).symm.trans H; with_reducible exact H2_) | with_reducible exact H | (rw [hy259]; exact H) | exact H
                    have Ny259 := Aside0.mk hy259
                    clear hy259
                    obtain ⟨ji15, hji15⟩ : ∃ j_ : Int, (wrap64 (x15_1 + 1)) = j_ := ⟨_, rfl⟩
                    replace H : (if 0 ≤ (ji15) then (if (ji15) < (x5_1.length : Int) then (nat_moved.l0 k1 a1 (y259.set ((ji15) : Int).toNat (((ji12) / 4294967296) % 4294967296)) l0 (l0.length : Int) ji15) else (none)) else (none)) = some r := by first | (rw [hji15] at H; exact H) | (simp only [hji15] at H ⊢; exact H)
                    have hji15w : (IntKind.i64.wrap (x15_1 + 1)) = ji15 := (i64_w _).trans hji15
                    by_cases c16 : 0 ≤ (ji15)
                    · rw [if_pos c16] at H
                      have c16b0 : decide (0 ≤ (ji15)) = true := decide_eq_true c16
                      clear c16
                      by_cases c17 : (ji15) < (x5_1.length : Int)
                      · rw [if_pos c17] at H
                        have c17b0 : decide ((ji15) < (x5_1.length : Int)) = true := decide_eq_true c17
                        clear c17
                        obtain ⟨y260, hy260⟩ : ∃ y_ : List Int, y_ = (y259.set ((ji15) : Int).toNat (((ji12) / 4294967296) % 4294967296)) := ⟨_, rfl⟩
                        replace H : (nat_moved.l0 k1 a1 y260 l0 (l0.length : Int) ji15) = some r := by first | (rw [hy260]; with_reducible exact H) | (have H2_ := (Option.bind_some _ _).symm.trans H; rw [hy260]; with_reducible exact H2_) | (have H2_ := (Option.bind_some _ _).symm.trans H; with_reducible exact H2_) | with_reducible exact H | (rw [hy260]; exact H) | exact H
                        have Ny260 := Aside0.mk hy260
                        clear hy260
                        have H' := Aside0.mk H
                        clear H
                        have p257 : 0 ≤ (x15_1 : Int) := of_decide_eq_true (by first | (with_reducible assumption) | assumption)
                        have q257 : x15_1 < (l0.length : Int) := of_decide_eq_true (by first | (with_reducible assumption) | assumption)
                        obtain ⟨ad257, e257, hx257_0⟩ := Kd.at_int HR0.out x15_1 p257 q257
                        cases e257
                        replace hx257_0 := (HB.out.cell (World.block_lt_of_cell? w _ hx257_0)).trans hx257_0
                        replace p257 := eq_true p257
                        replace q257 := eq_true q257
                        obtain ⟨Ao19, co19, eo19⟩ := Kd.R_slice HO_5.out
                        subst eo19
                        have p258 : 0 ≤ (x15_1 : Int) := of_decide_eq_true (by first | (with_reducible assumption) | assumption)
                        have q258 : x15_1 < (x5_1.length : Int) := of_decide_eq_true (by first | (with_reducible assumption) | assumption)
                        obtain ⟨ad258, e258, hx258_0⟩ := Kd.at_int (Kd.R_reads' HO_5.out).2.2 x15_1 p258 q258
                        cases e258
                        replace p258 := eq_true p258
                        replace q258 := eq_true q258
                        have p14 : 0 ≤ (x15_1 : Int) := of_decide_eq_true (by first | (with_reducible assumption) | assumption)
                        have q14 : (x15_1 : Int) < ((x5_1.length : Int) : Int) := of_decide_eq_true (by first | (with_reducible assumption) | assumption)
                        obtain ⟨go14, co14, eo14, gb14, gl14, cl14, HG14⟩ := Kd.R_form HO_5.out (by omega)
                        (first | cases eo14 | (injection eo14 with ea_ en_ ec_; (first | subst ea_ | (injection ea_ with ea_; subst ea_)); subst ec_; clear en_))
                        have GB14 := Aside0.mk gb14
                        have GG14 := Aside0.mk HG14
                        clear gb14 gl14 HG14
                        (first | simp only [add_plain] at hx258_0 | skip)
                        obtain ⟨hx14_0, hf14_0⟩ := Kd.R_celln 0 HO_5.out (x15_1 : Int) p14 q14
                        (try simp only [Int.toNat_natCast] at hx14_0)
                        (try simp only [Int.toNat_natCast] at hf14_0)
                        replace p14 := eq_true p14
                        replace q14 := eq_true q14
                        have HP20 := Kd.R_putg HO_5.out (x15_1 : Int) (Go.bits .or .u32 (rd x5_1 x15_1) ((ji12) % 4294967296))
                        go_wp2_with (first | ((with_reducible refine gate_store (t := 38) (p := 31) rfl ?_); refine store_event (t := 38) (p := 31) (v := ?vo_w21) (w1 := (wr.setCell ⟨go14, (x15_1 : Int).toNat, none⟩ (.int .u32 (Go.bits .or .u32 (rd x5_1 x15_1) ((ji12) % 4294967296))))) ?hg ?ho ?hn ?hr ?_; (case ho => rfl); (case hg => rfl); (case hn => rfl); (case hr => first | (go_simp; done) | (go_simp; rfl) | (obtain ⟨hx_, hf_⟩ := Kd.R_celln 0 HO_5.out (x15_1 : Int) (of_decide_eq_true (by first | (with_reducible assumption) | assumption)) (of_decide_eq_true (by first | (with_reducible assumption) | assumption)); (try simp only [Int.toNat_natCast] at hx_); (try simp only [Int.toNat_natCast] at hf_); first | (go_simp; done) | (go_simp; rfl))); intro w21 hw; have hg : wr.grownBy w21 (some go14) := (by rw [hw]; exact HP20.2); have hp_ : Kd.R (Kd.int .u32) 38 w21 w.heap.size (fun _ => True) (.slice (some ⟨go14, 0, none⟩) x5_1.length co19) y259 := (by rw [hw, Ny259.out]; exact HP20.1); clear HP20; have n0_ := Aside0.mk (hp_); have n1_ := Aside0.mk ((by rw [hw]; exact below_set (HB.out) GB14.out : Below w.heap.size w w21)); clear HO_5; clear HB; have HO_5 := n0_; have HB := n1_; clear n0_ n1_; clear hg hw hp_; have p18 : 0 ≤ ((ji15) : Int) := of_decide_eq_true (by first | (with_reducible assumption) | assumption); have q18 : ((ji15) : Int) < ((x5_1.length : Int) : Int) := of_decide_eq_true (by first | (with_reducible assumption) | assumption); obtain ⟨hx18_0, hf18_0⟩ := Kd.R_celln 0 HO_5.out ((ji15) : Int) p18 q18; (try simp only [Int.toNat_natCast] at hx18_0); (try simp only [Int.toNat_natCast] at hf18_0); replace p18 := eq_true p18; replace q18 := eq_true q18; obtain ⟨hy22_, hz22_⟩ := Kd.R_celln 0 HO_5.out ((ji15) : Int) (of_decide_eq_true (by first | (with_reducible assumption) | assumption)) (of_decide_eq_true (by first | (with_reducible assumption) | assumption)); have HP22 := Kd.R_putg HO_5.out ((ji15) : Int) (((ji12) / 4294967296) % 4294967296)) | ((with_reducible refine gate_store (t := 38) (p := 38) rfl ?_); refine store_event (t := 38) (p := 38) (v := ?vo_w23) (w1 := (w21.setCell ⟨go14, ((ji15) : Int).toNat, none⟩ (.int .u32 (((ji12) / 4294967296) % 4294967296)))) ?hg ?ho ?hn ?hr ?_; (case ho => rfl); (case hg => rfl); (case hn => rfl); (case hr => first | (go_simp; done) | (go_simp; rfl) | (obtain ⟨hx_, hf_⟩ := Kd.R_celln 0 HO_5.out ((ji15) : Int) (of_decide_eq_true (by first | (with_reducible assumption) | assumption)) (of_decide_eq_true (by first | (with_reducible assumption) | assumption)); (try simp only [Int.toNat_natCast] at hx_); (try simp only [Int.toNat_natCast] at hf_); first | (go_simp; done) | (go_simp; rfl))); intro w23 hw; have hg : w21.grownBy w23 (some go14) := (by rw [hw]; exact HP22.2); have hp_ : Kd.R (Kd.int .u32) 38 w23 w.heap.size (fun _ => True) (.slice (some ⟨go14, 0, none⟩) x5_1.length co19) y260 := (by rw [hw, Ny260.out]; exact HP22.1); clear HP22; have n0_ := Aside0.mk (hp_); have n1_ := Aside0.mk ((by rw [hw]; exact below_set (HB.out) GB14.out : Below w.heap.size w w23)); clear HO_5; clear HB; have HO_5 := n0_; have HB := n1_; clear n0_ n1_; clear hg hw hp_))
                        go_roundg k1
                        case measure => have := HK1.out; omega
                        case rel => exact ⟨(y260), (ji15), (by first | rfl | (simp; done) | (simp only [← hji15] <;> (first | rfl | simp)) | (simp [*]; done)), H', ⟨by have := HK1.out; omega⟩, ⟨by (with_reducible repeat (first | apply Kd.R_alloc | apply Kd.R_drewN | apply Kd.R_drew)); exact HO_5.out⟩, ⟨by repeat (first | (with_reducible first | exact HB.out | apply below_alloc | apply pw_below_drewN | apply below_drew1) | exact HB.out)⟩⟩
                      · rw [if_neg c17] at H
                        exact absurd H (by simp)
                    · rw [if_neg c16] at H
                      exact absurd H (by simp)
                  · rw [if_neg c13] at H
                    exact absurd H (by simp)
                · rw [if_neg c11] at H
                  exact absurd H (by simp)
              · rw [if_neg c10] at H
                exact absurd H (by simp)
            · rw [if_neg c9] at H
              exact absurd H (by simp)
          · rw [if_neg c8] at H
            have c8b0 : decide (x15_1 < (l0.length : Int)) = false := decide_eq_false c8
            clear c8
            obtain rfl := Option.some.inj H
            go_wp2
            go_ret
            exact ⟨_, by first | rfl | (simp [errW_none, errW_some] <;> rfl) | (simp only [← hji3]; first | rfl | (simp [errW_none, errW_some] <;> rfl)) | (simp [*, errW_none, errW_some] <;> rfl), by (with_reducible repeat (first | apply Kd.R_alloc | apply Kd.R_drewN | apply Kd.R_drew)); exact HO_5.out, by repeat (first | (with_reducible first | exact HB.out | apply below_alloc | apply pw_below_drewN | apply below_drew1) | exact HB.out)⟩
    · rw [if_neg c5] at H
      exact absurd H (by simp)
  · rw [if_neg c4] at H
    exact absurd H (by simp)

end Go.Proofs.YtkihjfpfocnneaaDoor.PNat
