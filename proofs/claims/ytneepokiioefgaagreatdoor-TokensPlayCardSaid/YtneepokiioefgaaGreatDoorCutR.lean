/- Pools of definitions: Cut of the reference, walked. -/
import Derived.Test.YtneepokiioefgaaGreatDoorCut
import Derived.RegionTactic
import Derived.ChangeAlike
namespace Go.Proofs.YtneepokiioefgaaGreatDoor.Pools
open Go.RowKit Go.Toks Go.Proofs.YtneepokiioefgaaGreatDoorW.PrintWords Go.Proofs.YtneepokiioefgaaGreatDoorW.PrintLast Go.Proofs.YtneepokiioefgaaGreatDoorW.PrintMore
set_option linter.unusedVariables false
set_option linter.unusedSimpArgs false
theorem Rest.drew {T : Nat} {w0 w wr : World} {ok : Nat → Prop} {g gd c : Nat} {L : List (List Tok)} {n : Int} (h : Rest T w0 w wr ok g gd c L n) : Rest T w0 w wr.drew ok g gd c L n := by
  obtain ⟨hb, hS, hbel, hk⟩ := h
  exact ⟨blk_drew hb, Kd.S_drew hS, below_drew hbel, hk.drew⟩
theorem S_rows {α : Type} {d : Kd α} {e base c m : Nat} {w : World} {ok : Nat → Prop} {A : Option Addr} {n : Nat} {xs : List α} (h : Kd.S d e w base ok (.slice A n c) xs) (hm : m ≤ xs.length) :
    ∃ f, ReadsRow ((Kd.tag f d).M w base (fun k => ok k ∧ some k ≠ (Value.slice A m c).ownBlock)) (Kd.tag f d).sz w A m (xs.take m).zipIdx := by
  obtain ⟨f, hR⟩ := Kd.S_take h hm
  obtain ⟨A', c', he, hl, hr⟩ := OwnRow.reads hR.2
  injection he with e1 e2 e3
  subst e1
  rw [← e2] at hr
  exact ⟨f, hr⟩
set_option maxRecDepth 100000 in
set_option maxHeartbeats 4000000 in
theorem rcut_pos (w0 w : World) (ok : Nat → Prop) (g : Nat) (L : List (List Tok)) (m : Nat) (H : PoolAt 52 w w0.heap.size ok g L) (HB : Below w0.heap.size w0 w) (hm : m ≤ L.length) (h0 : 0 < L.length) :
    Calls Tryz.prog 35 #[.pointer (some ⟨g, 0, none⟩), .int .i64 m] w fun e w' => e = .returned (.int .i64 0) ∧ PoolAt 52 w' w0.heap.size (fun k => ok k ∨ w.heap.size ≤ k) g (L.take m) ∧ Below w0.heap.size w0 w' ∧ Kept w w' ok := by
  have HP := Aside0.mk H
  have HBB := Aside0.mk HB
  obtain ⟨hf, hok, hlow, A, c, hb, hS⟩ := H
  obtain ⟨gd, cap, he, -, -, -⟩ := Kd.S_form hS (by omega)
  injection he with e1 e2 e3
  subst e1
  have hc0 : w.cell? ⟨g, 0, none⟩ = some (.slice (some ⟨gd, 0, none⟩) L.length c) := by rw [blk_cell hb]; rfl
  have hcL := (Kd.S_reads' hS).2.1
  have hdef := hf.defs
  have HR := Aside0.mk (show Rest 52 w0 w w ok g gd c L ((cnt (L.take m) + cnt (L.drop m) : Nat) : Int) from ⟨by rw [hb, cnt_split L m], hS, HB, Kept.refl _ _⟩)
  have hm1 : (m : Int) ≤ (L.length : Int) := by omega
  obtain ⟨i0, hi, hz0, hz1, hz2⟩ := info_parts info63
  have hto := slice_to (P := Tryz.prog) 47 63 Tryz.underlying47 hi (some ⟨gd, 0, none⟩) L.length c m (by omega)
  clear hb hS hf HB e2 e3 hi hz0 hz1 hz2
  go_enter Tryz.func35, Tryz.ntmps35
  go_wp2
  go_loopg [5] (L.length - m) (fun kq v5 wr => ∃ (k : Nat) (n : Int), v5 = .int .i64 (m + k : Nat) ∧ Aside0 (k + kq = L.length - m) ∧ Aside0 (n = ((cnt (L.take m) + cnt (L.drop (m + k)) : Nat) : Int)) ∧ Aside0 (Rest 52 w0 w wr ok g gd c L n))
  case atStart => exact ⟨0, _, rfl, ⟨by omega⟩, ⟨by rw [Nat.add_zero]⟩, HR⟩
  case round =>
    clear HR hc0
    obtain ⟨k, n, rfl, HKQ, HN, HR⟩ := hrel
    have hc0 : wr.cell? ⟨g, 0, none⟩ = some (.slice (some ⟨gd, 0, none⟩) L.length c) := by rw [blk_cell HR.out.blk]; rfl
    have hc1 : wr.cell? ⟨g, 1, none⟩ = some (.int .i64 n) := by rw [blk_cell HR.out.blk]; rfl
    have hf1 := blk_frozen HR.out.blk 1
    have hn0 : 0 ≤ n ∧ n ≤ 100000 := by
      have h1 := HN.out
      have h2 := HP.out.fit.toks
      have h3 := cnt_split L m
      have h4 := cnt_split (L.drop m) k
      rw [List.drop_drop] at h4
      omega
    obtain ⟨hn0, hn1⟩ := hn0
    obtain ⟨i, ei⟩ : ∃ i, i = m + k := ⟨_, rfl⟩
    rw [← ei] at HN
    have EI := Aside0.mk ei
    by_cases hlt : i < L.length
    · obtain ⟨j, rfl⟩ : ∃ j, gk = j + 1 := ⟨gk - 1, by have := HKQ.out; omega⟩
      obtain ⟨A', c', hcr⟩ := HR.out.at_ i (by omega)
      obtain ⟨l, el⟩ : ∃ l, l = (L.getD i []).length := ⟨_, rfl⟩
      rw [← el] at hcr
      have HC := Aside0.mk (show n - (l : Int) = ((cnt (L.take m) + cnt (L.drop (m + (k + 1))) : Nat) : Int) by
        have h1 := HN.out
        have h2 := cnt_drop L i (by omega)
        rw [← Nat.add_assoc, ← ei]
        omega)
      have hll : (l : Int) ≤ n := by have := HC.out; omega
      have HPUT := Aside0.mk (HR.out.drew.put HP.out.okg HP.out.low (n - (l : Int)))
      have hlt1 : (i : Int) < (L.length : Int) := by omega
      have hi0 : (0 : Int) ≤ (i : Int) := by omega
      have hnw : IntKind.i64.wrap (n - (l : Int)) = n - (l : Int) := IntWalk.i64_in _ (by omega)
      rw [← ei]
      clear el ei
      go_wp2
      go_region
      all_goals
        go_wp2
        go_roundg j
        case measure => omega
        case rel => exact ⟨k + 1, n - l, by rw [show m + (k + 1) = i + 1 by have := EI.out; omega]; go_num, ⟨by have := HKQ.out; omega⟩, ⟨HC.out⟩, HPUT⟩
    · obtain ⟨f, hrd⟩ := S_rows HR.out.row hm
      have HRD := Aside0.mk hrd
      have HBS := Aside0.mk HR.out.below
      have hngo : some g ≠ (Value.slice (some ⟨gd, 0, none⟩) L.length c).ownBlock := fun e => by
        have h_ := (Kd.S_R HR.out.row).1 g e.symm
        exact h_.2 rfl
      have HC := Aside0.mk (show n = (cnt (L.take m) : Int) by
        have h1 := HN.out
        rw [List.drop_of_length_le (by omega)] at h1
        simpa [cnt] using h1)
      have HSZ := Aside0.mk HR.out.kept.1
      have HGL := Aside0.mk HP.out.lt
      have hge : ¬ (i : Int) < (L.length : Int) := by omega
      have hge2 : (L.length : Int) ≤ (i : Int) := by omega
      have HDF := Aside0.mk hdef
      have HML := Aside0.mk hm
      rw [← ei]
      clear hrd ei hc1 hf1 hn0 hn1 hlt hm
      go_wp2_with ((with_reducible refine gate_builtin (b := .append) (xs := #[.tmp 45, .tmp 51]) rfl ?_); at_builtin; refine Kd.R_append_rows (Kd.tag f rk) (w0 := w0) w0.heap.size rfl (.tmp 45) (.tmp 51) 47 63 (.slice none 0 0) 24 rfl Tryz.underlying47 info63 rfl (by exact Nat.one_pos) (by omega) (.slice none 0 0) [] ((L.take m).zipIdx) (some ⟨gd, 0, none⟩) m c (fun k => (ok k ∨ w.heap.size ≤ k) ∧ k ≠ g) _ rfl rfl (Kd.R_nil _ _ _ _ _) HRD.out (fun _ _ h => h) (fun k hk => ⟨⟨.inl hk.1.1, hk.1.2⟩, by simp [Value.ownBlock]⟩) ?aF HBS.out HBS.out.size ?aL ?_; (case aF => exact fun k hk => ⟨.inr (Nat.le_trans HSZ.out hk), by have := HGL.out; have := HSZ.out; omega⟩); (case aL => have := HDF.out; have := HML.out; simp; omega); intro v1 w1 ho hbel hg hat; obtain ⟨A1, c1, rfl⟩ := Kd.R_slice ho; rw [List.nil_append, List.length_zipIdx, List.length_take, Nat.min_eq_left HML.out] at ho; (have hb1 : w1.heap[g]? = some (.cells #[.slice (some ⟨gd, 0, none⟩) L.length c, .int .i64 n] 52 (0, 0)) := blk_grown HR.out.blk hg (by simp [Value.ownBlock])); have hcell1 : w1.cell? ⟨g, 0, none⟩ = some (.slice (some ⟨gd, 0, none⟩) L.length c) := (by rw [blk_cell hb1]; rfl); have hfr1 := blk_frozen hb1 0; have n0_ := Aside0.mk ho; have n1_ := Aside0.mk hbel; have n2_ := Aside0.mk hb1; have n3_ := Aside0.mk (Kept.of_grown (S := ok) hg HR.out.kept (fun k e_ => by simp [Value.ownBlock] at e_)); clear ho hbel hg hat hb1)
      go_ret
      refine ⟨rfl, ?_, below_set n1_.out HP.out.low, n3_.out.setCell (.inl HP.out.okg) _⟩
      have HF : Fit (L.take m) := by have h_ := fit_cut HP.out.fit (m : Int); unfold cutL at h_; rw [if_pos (show cutB L (m : Int) = true from decide_eq_true ⟨by omega, hm1⟩), Int.toNat_natCast] at h_; exact h_
      have hS1 : Kd.S rk 63 w1 w0.heap.size (fun k => (ok k ∨ w.heap.size ≤ k) ∧ k ≠ g) (.slice A1 (L.take m).length c1) (L.take m) := ⟨f, by rw [List.length_take, Nat.min_eq_left HML.out]; exact n0_.out⟩
      have h_ := PoolAt.put0 HF (.inl HP.out.okg) HP.out.low rfl (by rw [n2_.out, HC.out]) hS1
      rw [List.length_take, Nat.min_eq_left HML.out] at h_
      first
      | exact h_
      | (rw [Nat.min_eq_left HML.out]; exact h_)
      | (rw [List.length_zipIdx, List.length_take, Nat.min_eq_left HML.out]; exact h_)
      | (rw [List.length_take, Nat.min_eq_left HML.out]; exact h_)

set_option maxRecDepth 100000 in
set_option maxHeartbeats 4000000 in
theorem rcut_nil (w0 w : World) (ok : Nat → Prop) (g : Nat) (H : PoolAt 52 w w0.heap.size ok g []) (HB : Below w0.heap.size w0 w) :
    Calls Tryz.prog 35 #[.pointer (some ⟨g, 0, none⟩), .int .i64 0] w fun e w' => e = .returned (.int .i64 0) ∧ PoolAt 52 w' w0.heap.size (fun k => ok k ∨ w.heap.size ≤ k) g [] ∧ Below w0.heap.size w0 w' ∧ Kept w w' ok := by
  have HP := Aside0.mk H
  have HBB := Aside0.mk HB
  obtain ⟨hf, hok, hlow, A, c, hb, hS⟩ := H
  rw [List.length_nil] at hb hS
  have hc0 : w.cell? ⟨g, 0, none⟩ = some (.slice A 0 c) := by rw [blk_cell hb]; rfl
  obtain ⟨i0, hi, hz0, hz1, hz2⟩ := info_parts info63
  have hto : ∀ W : World, (Instr.slice 47 (.slice A 0 c) none (some (.int .i64 0)) none).run Tryz.prog W = .ok (.slice A 0 c) W := slice_to (P := Tryz.prog) 47 63 Tryz.underlying47 hi A 0 c 0 (by omega)
  obtain ⟨f, hrd⟩ := S_rows (m := 0) hS (by simp)
  have HRD := Aside0.mk hrd
  have hb' := Aside0.mk hb
  clear hb hS hf HB hi hz0 hz1 hz2 hrd
  go_enter Tryz.func35, Tryz.ntmps35
  go_wp2
  refine wp_loop_rounds 1 ?_
  rw [rounds_succ]
  go_wp2_with ((with_reducible refine gate_builtin (b := .append) (xs := #[.tmp 45, .tmp 51]) rfl ?_); at_builtin; refine Kd.R_append_rows (Kd.tag f rk) (w0 := w0) w0.heap.size rfl (.tmp 45) (.tmp 51) 47 63 (.slice none 0 0) 24 rfl Tryz.underlying47 info63 rfl (by exact Nat.one_pos) (by omega) (.slice none 0 0) [] (([] : List (List Tok)).take 0).zipIdx A 0 c (fun k => (ok k ∨ w.heap.size ≤ k) ∧ k ≠ g) _ rfl rfl (Kd.R_nil _ _ _ _ _) HRD.out (fun _ _ h => h) (fun k hk => ⟨⟨.inl hk.1.1, hk.1.2⟩, by simp [Value.ownBlock]⟩) ?aF HBB.out HBB.out.size ?aL ?_; (case aF => exact fun k hk => ⟨.inr hk, by have := HP.out.lt; omega⟩); (case aL => simp); intro v1 w1 ho hbel hg hat; obtain ⟨A1, c1, rfl⟩ := Kd.R_slice ho; (have hb1 : w1.heap[g]? = some (.cells #[.slice A 0 c, .int .i64 (cnt [])] 52 (0, 0)) := blk_grown hb'.out hg (by simp [Value.ownBlock])); have hcell1 : w1.cell? ⟨g, 0, none⟩ = some (.slice A 0 c) := (by rw [blk_cell hb1]; rfl); have hfr1 := blk_frozen hb1 0; have n0_ := Aside0.mk ho; have n1_ := Aside0.mk hbel; have n2_ := Aside0.mk hb1; have n3_ := Aside0.mk (Kept.of_grown (S := ok) hg (Kept.refl w ok) (fun k e_ => by simp [Value.ownBlock] at e_)); clear ho hbel hg hat hb1)
  go_ret
  refine ⟨rfl, ?_, below_set n1_.out HP.out.low, n3_.out.setCell (.inl HP.out.okg) _⟩
  exact PoolAt.put0 fit_nil (.inl HP.out.okg) HP.out.low rfl n2_.out ⟨f, n0_.out⟩
theorem rcut_any (w0 w : World) (ok : Nat → Prop) (g : Nat) (L : List (List Tok)) (n : Int) (H : PoolAt 52 w w0.heap.size ok g L) (HB : Below w0.heap.size w0 w) :
    Calls Tryz.prog 35 #[.pointer (some ⟨g, 0, none⟩), .int .i64 n] w fun e w' => e = .returned (.int .i64 (cutR L n)) ∧ PoolAt 52 w' w0.heap.size (fun k => ok k ∨ w.heap.size ≤ k) g (cutL L n) ∧ Below w0.heap.size w0 w' ∧ Kept w w' ok := by
  by_cases hc : cutB L n = true
  · have h1 : cutR L n = 0 := by unfold cutR; rw [if_pos hc]
    have h2 : cutL L n = L.take n.toNat := by unfold cutL; rw [if_pos hc]
    rw [h1, h2]
    obtain ⟨h3, h4⟩ : 0 ≤ n ∧ n ≤ (L.length : Int) := by unfold cutB at hc; exact decide_eq_true_iff.1 hc
    obtain ⟨m, rfl⟩ := Int.eq_ofNat_of_zero_le h3
    rw [Int.toNat_natCast]
    cases L with
    | nil =>
      obtain rfl : m = 0 := by simpa using h4
      exact rcut_nil w0 w ok g H HB
    | cons l L => exact rcut_pos w0 w ok g (l :: L) m H HB (by omega) (by simp)
  · have hc' := Bool.eq_false_iff.mpr hc
    have h1 := Aside0.mk (show cutR L n = 1 by unfold cutR; rw [hc']; rfl)
    have h2 := Aside0.mk (show cutL L n = L by unfold cutL; rw [hc']; rfl)
    have HN := Aside0.mk (And.intro (H.more (ok' := fun k => ok k ∨ w.heap.size ≤ k) (fun k h => .inl h)) (And.intro HB (Kept.refl w ok)))
    have hno : ¬ (0 ≤ n ∧ n ≤ (L.length : Int)) := by unfold cutB at hc; exact fun h => hc (decide_eq_true h)
    obtain ⟨-, -, -, A, c, hb, -⟩ := H
    have hc0 : w.cell? ⟨g, 0, none⟩ = some (.slice A L.length c) := by rw [blk_cell hb]; rfl
    clear hb HB hc hc'
    by_cases h0 : n < 0
    · clear hno
      go_enter Tryz.func35, Tryz.ntmps35
      go_wp2
      go_ret
      exact ⟨by rw [h1.out]; rfl, by rw [h2.out]; exact HN.out.1, HN.out.2⟩
    · have h3 : 0 ≤ n := by omega
      have h4 : (L.length : Int) < n := by omega
      clear hno
      go_enter Tryz.func35, Tryz.ntmps35
      go_wp2
      go_ret
      exact ⟨by rw [h1.out]; rfl, by rw [h2.out]; exact HN.out.1, HN.out.2⟩
end Go.Proofs.YtneepokiioefgaaGreatDoor.Pools
