/- What the document fixes of tokens: awake, walked, and Show at a token of two numbers. -/
import Derived.Test.YtneepokiioefgaaGreatDoorCutR
import Derived.Test.YtneepokiioefgaaGreatDoorShelf
import Derived.Lib.AppendIntMem
import Derived.Deep.RegionLawGrows
namespace Go.Proofs.YtneepokiioefgaaGreatDoor.Pools
open Go.RowKit Go.Toks Go.Proofs.YtneepokiioefgaaGreatDoorW.PrintWords Go.Proofs.YtneepokiioefgaaGreatDoorW.PrintLast Go.Proofs.YtneepokiioefgaaGreatDoorW.PrintMore
set_option linter.unusedVariables false
set_option linter.unusedSimpArgs false
theorem info9 : (Tryz.prog.info? 9).map (fun i => (i.zero, i.size, i.bytes)) = some (some (.string ⟨#[]⟩), 1, 16) := by kernel_rfl
/-- the table of strconv's powers reads as it should, from w0 on -/
def Pow (w0 : World) : Prop := Lib.TabBelow Tryz.prog w0.heap.size w0 "internal/strconv.uint64pow10" .u64 Lib.pow10Tab
theorem itoa_any (w0 : World) (HT : Pow w0) (n : Int) (h0 : -9223372036854775808 ≤ n) (h1 : n ≤ 9223372036854775807) (w : World) (HB : Below w0.heap.size w0 w) :
    Calls Tryz.prog 25 #[.int .i64 n] w fun e w' => e = .returned (.string ⟨(Lib.itoa n).toArray⟩) ∧ Below w.heap.size w w' := by
  refine (Tryz.strconv_Itoa n h0 h1 w (HT w HB)).mono ?_
  rintro e w' ⟨rfl, k, os, rfl⟩
  exact ⟨rfl, Lib.below_grow w.heap.size w (Nat.le_refl _) k os⟩
theorem row_two (w : World) : Calls Tryz.prog 23 #[.int .i64 3] w fun e w' => e = .returned (.tuple #[.string ⟨#[50, 108, 105, 116]⟩, .int .i64 4]) ∧ w = w' := by
  go_enter Tryz.func23, Tryz.ntmps23
  go_wp2
  go_ret2
  exact ⟨rfl, rfl⟩
set_option maxRecDepth 100000 in
set_option maxHeartbeats 4000000 in
theorem show_two (w0 : World) (HT : Pow w0) (a b : Int) (ha0 : -9223372036854775808 ≤ a) (ha1 : a ≤ 9223372036854775807) (hb0 : -9223372036854775808 ≤ b) (hb1 : b ≤ 9223372036854775807) (name : ByteArray) (w : World) (HB : Below w0.heap.size w0 w)
    (hl : (Lib.join [[50, 108, 105, 116], Lib.itoa a, Lib.itoa b] [32]).length ≤ 140737488355328) :
    Calls Tryz.prog 8 #[.agg #[.int .i64 3, .int .i64 a, .int .i64 b], .string name] w fun e w' => e = .returned (.string ⟨(Lib.join [[50, 108, 105, 116], Lib.itoa a, Lib.itoa b] [32]).toArray⟩) ∧ Below w0.heap.size w0 w' := by
  have HTT := Aside0.mk HT
  have HBB := Aside0.mk HB
  obtain ⟨i0, hi, hz0, hz1, hz2⟩ := info_parts info9
  have hlow := HB.size
  clear HT HB
  go_enter Tryz.func8, Tryz.ntmps8
  go_wp2_with (go_at_call 23; refine (row_two _).mono ?_; rintro e w' ⟨rfl, rfl⟩)
  generalize ewx : (w.alloc (Obj.cells #[Value.int IntKind.i64 3, Value.int IntKind.i64 a, Value.int IntKind.i64 b] 23)).alloc (Obj.cells #[Value.string ⟨#[50, 108, 105, 116]⟩] 9) = wx
  have HBX : Below w0.heap.size w0 wx := by rw [← ewx]; exact below_alloc (below_alloc HBB.out _) _
  have hx1 : wx.cell? ⟨w.heap.size, 1, none⟩ = some (.int .i64 a) := by rw [← ewx]; exact pw_cell_below (below_alloc (Below.refl _ _) _) (by rw [blk_cell (blk_new w _)]; rfl)
  have hx2 : wx.cell? ⟨w.heap.size, 2, none⟩ = some (.int .i64 b) := by rw [← ewx]; exact pw_cell_below (below_alloc (Below.refl _ _) _) (by rw [blk_cell (blk_new w _)]; rfl)
  have hx3 : wx.cell? ⟨w.heap.size + 1, 0, none⟩ = some (.string ⟨#[50, 108, 105, 116]⟩) := by
    rw [← ewx]
    have h_ := blk_new (w.alloc (Obj.cells #[Value.int IntKind.i64 3, Value.int IntKind.i64 a, Value.int IntKind.i64 b] 23)) (Obj.cells #[Value.string ⟨#[50, 108, 105, 116]⟩] 9)
    simp only [World.size_alloc] at h_
    rw [blk_cell h_]; rfl
  clear ewx
  go_region_held3 (fun w' => w'.cell? ⟨w.heap.size, 1, none⟩ = some (.int .i64 a) ∧ w'.cell? ⟨w.heap.size, 2, none⟩ = some (.int .i64 b) ∧ w'.cell? ⟨w.heap.size + 1, 0, none⟩ = some (.string ⟨#[50, 108, 105, 116]⟩) ∧ Below w0.heap.size w0 w')
    (((try go_split_ands); refine ⟨?_, ?_, ?_, ?_⟩ <;> first
      | assumption
      | exact pw_cell_below hb_ (by assumption)
      | exact pw_cell_below (below_drew (Below.refl _ _)) (by assumption)
      | exact pw_cell_below (below_drew (below_alloc (Below.refl _ _) _)) (by assumption)
      | exact pw_cell_below (below_alloc (Below.refl _ _) _) (by assumption)
      | exact below_drew (by assumption)
      | exact below_alloc (by assumption) _
      | exact below_drew (below_alloc (by assumption) _)
      | exact Below.trans (by assumption) (hb_.mono (Below.size (by assumption)))))
    (first
      | (go_at_call 25; go_split_ands; refine (itoa_any w0 HTT.out _ (by assumption) (by assumption) _ (by assumption)).mono ?_; rintro e w' ⟨rfl, hb_⟩)
      | (go_split_ands; refine step_append_grows (by rfl) _ _ 58 (by rfl) 9 i0 _ 1 16 Tryz.underlying58 hi hz0 hz1 hz2 rfl (by decide) (some ⟨w.heap.size + 1, 0, none⟩) 1 1 [.string ⟨#[50, 108, 105, 116]⟩] (by rfl) (by intro h; cases h) rfl (by intro q hq j u hj; cases hq; match j, hj with | 0, hj => (simp at hj; subst hj; simp [Addr.add]; assumption) | (j + 1), hj => simp at hj) ⟨_, 0, none⟩ 2 2 [.string ⟨(Lib.itoa a).toArray⟩, .string ⟨(Lib.itoa b).toArray⟩] (by rfl) (by rfl) (World.news_of_block (cs := #[.string ⟨(Lib.itoa a).toArray⟩, .string ⟨(Lib.itoa b).toArray⟩]) (t := 9) (fr := (0, 0)) (heap_alloc_new _ _)) (by simp [Value.oneCell']) (by omega) (by unfold maxLen; omega) (by omega) ?_; intro v1 w1 hown1 hgrow; have hb_ := pw_below_grown (Below.refl _ _) none (Nat.le_refl _) hgrow (by simp); obtain ⟨gg, cap, rfl, -, hglt⟩ := hown1.form (by omega)))
  (try go_split_ands)
  have HOWN := Aside0.mk hown1
  have HB1 := Aside0.mk (show Below w0.heap.size w0 w1 by first | assumption | exact Below.trans (by assumption) (hb_.mono (Below.size (by assumption))))
  clear hown1 hgrow hb_
  go_wp2_with (go_at_call 26; refine (Tryz.strings_Join gg 0 cap [⟨#[50, 108, 105, 116]⟩, ⟨(Lib.itoa a).toArray⟩, ⟨(Lib.itoa b).toArray⟩] ⟨#[32]⟩ w1 ?hc hglt ?hn ?hcp ?hln).mono ?_; (case hc => (intro j x hj; have h_ := HOWN.out.cells (g := gg) rfl j (.string x) (by match j, hj with | 0, hj => (simp at hj; subst hj; rfl) | 1, hj => (simp at hj; subst hj; rfl) | 2, hj => (simp at hj; subst hj; rfl) | (j + 3), hj => simp at hj); rw [add_at] at h_; exact h_)); (case hn => simp); (case hcp => exact (own_le HOWN.out)); (case hln => simpa using hl); rintro e w' ⟨rfl, hb_⟩)
  go_ret
  exact ⟨rfl, HB1.out.trans (hb_.mono HB1.out.size)⟩

theorem pool_new (T : Nat) (w0 w : World) (HB : Below w0.heap.size w0 w) : PoolAt T (w.alloc (.cells #[.slice none 0 0, .int .i64 0] T)) w0.heap.size (fun k => k = w.heap.size) w.heap.size [] :=
  ⟨fit_nil, rfl, HB.size, none, 0, blk_new w _, Kd.S_nil _ _ _ _ _⟩
theorem new_any (w : World) : Calls Tryz.prog 19 #[] w fun e w' => e = .returned (.pointer (some ⟨w.heap.size, 0, none⟩)) ∧ w' = w.alloc (.cells #[.slice none 0 0, .int .i64 0] 49) := by
  go_enter Tryz.func19, Tryz.ntmps19
  go_wp2
  go_ret
  exact ⟨rfl, rfl⟩
theorem said_len : (Lib.join [[50, 108, 105, 116], Lib.itoa (-1), Lib.itoa 2] [32]).length ≤ 140737488355328 := of_decide_eq_true (by kernel_rfl)
theorem said_two : (⟨(Lib.join [[50, 108, 105, 116], Lib.itoa (-1), Lib.itoa 2] [32]).toArray⟩ : ByteArray) = ⟨#[50, 108, 105, 116, 32, 45, 49, 32, 50]⟩ := by kernel_rfl
set_option maxRecDepth 100000 in
set_option maxHeartbeats 4000000 in
theorem awake_any (w0 : World) (HT : Pow w0) (w : World) (HB : Below w0.heap.size w0 w) :
    Calls Tryz.prog 12 #[] w fun e w' => e = .returned (.bool true) ∧ Below w0.heap.size w0 w' := by
  have HTT := Aside0.mk HT
  have HBB := Aside0.mk HB
  have HP0 := Aside0.mk (pool_new 49 w0 w HB)
  have HB0 := Aside0.mk (below_alloc HB (.cells #[.slice none 0 0, .int .i64 0] 49))
  clear HT HB
  go_enter Tryz.func12, Tryz.ntmps12
  go_wp2_with (first
    | (go_at_call 19; refine (new_any _).mono ?_; rintro e w1 ⟨rfl, rfl⟩)
    | (go_at_call 13; refine (open_any w0 _ _ _ _ HP0.out HB0.out).mono ?_; rintro e w2 ⟨he, hp, hb, -⟩; obtain rfl : e = .returned (.tuple #[.int .i64 1, .int .i64 0]) := he; have HP1 := Aside0.mk hp; have HB1 := Aside0.mk hb; clear hp hb)
    | (go_at_call 14; refine (emit_any w0 _ _ _ _ 1 (2, 5, 0) HP1.out HB1.out).mono ?_; rintro e w3 ⟨he, -, hb, -⟩; obtain rfl : e = .returned (.tuple #[.int .i64 0, .int .i64 0]) := he; have HB2 := Aside0.mk hb; clear hb)
    | (go_at_call 8; refine (show_two w0 HTT.out (-1) 2 (by decide) (by decide) (by decide) (by decide) _ _ HB2.out said_len).mono ?_; rintro e w4 ⟨he, hb⟩; rw [said_two] at he; subst he; have HB3 := Aside0.mk hb; clear hb))
  go_ret
  exact ⟨rfl, HB3.out⟩
end Go.Proofs.YtneepokiioefgaaGreatDoor.Pools
