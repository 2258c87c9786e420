/- Pools of definitions: Cut of the program, walked. -/
import Derived.Test.YtneepokiioefgaaGreatDoorPatch
import Derived.Deep.LoopGhost
namespace Go.Proofs.YtneepokiioefgaaGreatDoor.Pools
open Go.RowKit Go.Toks Go.Proofs.YtneepokiioefgaaGreatDoorW.PrintWords Go.Proofs.YtneepokiioefgaaGreatDoorW.PrintLast Go.Proofs.YtneepokiioefgaaGreatDoorW.PrintMore
set_option linter.unusedVariables false
set_option linter.unusedSimpArgs false
/-- a row cut, and what lay behind written over -/
theorem S_cut {α : Type} {d : Kd α} {e base g n c : Nat} {w : World} {ok : Nat → Prop} {xs : List α} (h : Kd.S d e w base ok (.slice (some ⟨g, 0, none⟩) n c) xs) (hs : d.sz = 1) (m : Nat) (vs : List Value) (hm : m + vs.length ≤ n) :
    Kd.S d e (w.setCells g m vs) base ok (.slice (some ⟨g, 0, none⟩) m c) (xs.take m) := by
  have hn := (Kd.S_reads' h).1
  obtain ⟨f, hR⟩ := Kd.S_take h (m := m) (by omega)
  obtain ⟨h0, inner, ho, hr⟩ := hR
  refine ⟨f, h0, inner, ?_, hr.imp_ (fun p q hq => Kd.M_step hq (fun k hk hlt => setCells_far vs m k (fun e => hk.2 (by rw [e]; simp [Value.ownBlock]))))⟩
  obtain ⟨h1, h2⟩ := ho
  refine ⟨h1, ?_⟩
  obtain ⟨_, _, inner', ho', _⟩ := h
  rw [List.length_zipIdx] at ho'
  rcases ho'.2 with ⟨h3, _⟩ | ⟨g1, cap1, cur1, e1, _, _, hnc1, _, hsz1, _⟩
  · cases h3
  rcases h2 with ⟨h3, _⟩ | ⟨g2, cap, cur, e2, hb, hh, hnc, hcap, hsz, ht⟩
  · cases h3
  injection e2 with e3 e4 e5
  injection e1 with e6 e7 e8
  injection e3 with e3
  injection e3 with e3
  subst e3 e5
  have hcs : (Kd.tag f d).sz = 1 := hs
  have em : ((xs.take m).zipIdx).length = m := by rw [List.length_zipIdx, List.length_take]; omega
  obtain ⟨cur', h4, h5, h6⟩ := setCells_row vs m w cur hh (by rw [hsz, hcs]; omega)
  refine .inr ⟨g, c, cur', by rw [em], hb, h4, hnc, hcap, by rw [h5]; exact hsz, ?_⟩
  rw [← ht, h6, hcs, Nat.mul_one, em]
  rw [List.append_assoc, List.take_append_of_le_length (by rw [List.length_take, Array.length_toList, hsz, hcs]; omega), List.take_take, Nat.min_self]

/-- in the loop of Cut: so much of the count is left -/
structure Rest (T : Nat) (w0 w wr : World) (ok : Nat → Prop) (g gd c : Nat) (L : List (List Tok)) (n : Int) : Prop where
  mk ::
  blk : wr.heap[g]? = some (.cells #[.slice (some ⟨gd, 0, none⟩) L.length c, .int .i64 n] T (0, 0))
  row : Kd.S rk 63 wr w0.heap.size (fun k => ok k ∧ k ≠ g) (.slice (some ⟨gd, 0, none⟩) L.length c) L
  below : Below w0.heap.size w0 wr
  kept : Kept w wr ok
theorem Rest.at_ {T : Nat} {w0 w wr : World} {ok : Nat → Prop} {g gd c : Nat} {L : List (List Tok)} {n : Int} (h : Rest T w0 w wr ok g gd c L n) (i : Nat) (hi : i < L.length) :
    ∃ A' c', wr.cell? ⟨gd, i, none⟩ = some (.slice A' (L.getD i []).length c') := by
  obtain ⟨hb, hS, -, -⟩ := h
  obtain ⟨oki, cs, hcl, hM, hcc, hfr, hoki, hH⟩ := Kd.S_elem hS [] (i : Int) (by omega) (by omega)
  obtain ⟨v, rfl, hR⟩ := hM
  obtain ⟨A', c', rfl⟩ := Kd.R_slice hR
  have h3 := hcc 0 _ rfl
  rw [Int.toNat_natCast, show i * rk.sz + 0 = i by show i * 1 + 0 = i; omega] at h3
  exact ⟨A', c', h3⟩
theorem Rest.put {T : Nat} {w0 w wr : World} {ok : Nat → Prop} {g gd c : Nat} {L : List (List Tok)} {n : Int} (h : Rest T w0 w wr ok g gd c L n) (hok : ok g) (hlow : w0.heap.size ≤ g) (n' : Int) : Rest T w0 w (wr.setCell ⟨g, 1, none⟩ (.int .i64 n')) ok g gd c L n' := by
  obtain ⟨hb, hS, hbel, hk⟩ := h
  exact ⟨by rw [blk_set hb]; rfl, Kd.S_far hS (fun _ hk => hk.2) _, below_set hbel hlow, hk.setCell (.inl hok) _⟩
set_option maxRecDepth 100000 in
set_option maxHeartbeats 2000000 in
theorem cut_lt (w0 w : World) (ok : Nat → Prop) (g : Nat) (L : List (List Tok)) (m : Nat) (H : PoolAt 49 w w0.heap.size ok g L) (HB : Below w0.heap.size w0 w) (hm : m < L.length) :
    Calls Tryz.prog 20 #[.pointer (some ⟨g, 0, none⟩), .int .i64 m] w fun e w' => e = .returned (.int .i64 0) ∧ PoolAt 49 w' w0.heap.size ok g (L.take m) ∧ Below w0.heap.size w0 w' ∧ Kept w w' ok := by
  have HD := defs_any w _ ok g L H
  have HP := Aside0.mk H
  have HBB := Aside0.mk HB
  obtain ⟨hf, hok, hlow, A, c, hb, hS⟩ := H
  obtain ⟨gd, cap, he, -, -, -⟩ := Kd.S_form hS (by omega)
  injection he with e1 e2 e3
  subst e1
  have hc0 : w.cell? ⟨g, 0, none⟩ = some (.slice (some ⟨gd, 0, none⟩) L.length c) := by rw [blk_cell hb]; rfl
  have hcL := (Kd.S_reads' hS).2.1
  have hdef := hf.defs
  have HR := Aside0.mk (show Rest 49 w0 w w ok g gd c L ((cnt (L.take m) + cnt (L.drop m) : Nat) : Int) from ⟨by rw [hb, cnt_split L m], hS, HB, Kept.refl _ _⟩)
  have hcm : ¬ c = m := by omega
  have hm1 : (m : Int) < (L.length : Int) := by omega
  have hcap : Aside0 (c ≤ maxLen) := ⟨by
    obtain ⟨_, _, inner', ho', _⟩ := hS
    rcases ho'.2 with ⟨h3, _⟩ | ⟨g1, cap1, cur1, e1, _, _, hnc1, hmx, hsz1, _⟩
    · cases h3
    · injection e1 with _ _ e8
      rw [e8]; exact hmx⟩
  clear hb hS hf HB e2 e3
  go_enter Tryz.func20, Tryz.ntmps20
  go_wp2_with (go_at_call 18; refine HD.mono ?_; rintro e w' ⟨rfl, rfl⟩)
  go_loopg [6, 24] (L.length - m) (fun kq v6 v24 wr => ∃ (k : Nat) (n : Int), v24 = .int .i64 k ∧ Aside0 (k + kq = L.length - m) ∧ Aside0 (n = ((cnt (L.take m) + cnt (L.drop (m + k)) : Nat) : Int)) ∧ Aside0 (Rest 49 w0 w wr ok g gd c L n))
  case atStart => exact ⟨0, _, rfl, ⟨by omega⟩, ⟨by rw [Nat.add_zero]⟩, HR⟩
  case round =>
    clear HR hc0
    obtain ⟨k, n, rfl, HKQ, HN, HR⟩ := hrel
    have hc0 : wr.cell? ⟨g, 0, none⟩ = some (.slice (some ⟨gd, 0, none⟩) L.length c) := by rw [blk_cell HR.out.blk]; rfl
    have hc1 : wr.cell? ⟨g, 1, none⟩ = some (.int .i64 n) := by rw [blk_cell HR.out.blk]; rfl
    have hf1 := blk_frozen HR.out.blk 1
    have hn0 : 0 ≤ n ∧ n ≤ 100000 := by
      have h1 := HN.out
      have h2 := HP.out.fit.toks
      have h3 := cnt_split L m
      have h4 := cnt_split (L.drop m) k
      rw [List.drop_drop] at h4
      omega
    obtain ⟨hn0, hn1⟩ := hn0
    by_cases hlt : k < L.length - m
    · obtain ⟨j, rfl⟩ : ∃ j, gk = j + 1 := ⟨gk - 1, by have := HKQ.out; omega⟩
      obtain ⟨A', c', hcr⟩ := HR.out.at_ (m + k) (by omega)
      obtain ⟨l, el⟩ : ∃ l, l = (L.getD (m + k) []).length := ⟨_, rfl⟩
      rw [← el] at hcr
      have HC := Aside0.mk (show n - (l : Int) = ((cnt (L.take m) + cnt (L.drop (m + (k + 1))) : Nat) : Int) by
        have h1 := HN.out
        have h2 := cnt_drop L (m + k) (by omega)
        rw [← Nat.add_assoc]
        omega)
      have hll : (l : Int) ≤ n := by have := HC.out; omega
      have HPUT := Aside0.mk (HR.out.put HP.out.okg HP.out.low (n - (l : Int)))
      have hlt1 : (k : Int) < ((L.length - m : Nat) : Int) := by omega
      have HEL := Aside0.mk el
      clear el
      go_wp2
      go_roundg j
      case measure => omega
      case rel => exact ⟨k + 1, n - l, by go_num, ⟨by have := HKQ.out; omega⟩, ⟨HC.out⟩, HPUT⟩
    · obtain rfl : gk = 0 := by have := HKQ.out; omega
      have hge : ¬ (k : Int) < ((L.length - m : Nat) : Int) := by omega
      have HC := Aside0.mk (show n = (cnt (L.take m) : Int) by
        have h1 := HN.out
        rw [List.drop_of_length_le (by omega)] at h1
        simpa [cnt] using h1)
      obtain ⟨ws, ews⟩ : ∃ ws, ws = wr.setCells gd m (List.replicate (L.length - m) (.slice none 0 0)) := ⟨_, rfl⟩
      have hcl : ∀ ty, (Builtin.clear_ #[47] ty #[.slice (some ⟨gd, m, none⟩) (L.length - m) (c - m)]).run Tryz.prog wr = .ok (.tuple #[]) ws := fun ty => by
        rw [ews]
        refine Lib.run_clear_slice wr 47 63 ty (.slice none 0 0) Tryz.underlying47 Tryz.zeroValue63 rfl rfl gd m (L.length - m) (c - m) (by omega) ?_ ?_
        · intro q hq
          obtain ⟨A', c', hcr⟩ := HR.out.at_ (m + q) (by omega)
          rw [hcr]; rfl
        · intro q hq
          obtain ⟨_, _, _, _, hfr⟩ := Kd.R_elem (Kd.S_R HR.out.row) [] ((m + q : Nat) : Int) (by omega) (by omega)
          have h4 := hfr 0
          rw [Int.toNat_natCast, show (m + q) * rk.sz + 0 = m + q by show (m + q) * 1 + 0 = _; omega] at h4
          exact h4
      have HS := Aside0.mk (show Kd.S rk 63 ws w0.heap.size (fun k => ok k ∧ k ≠ g) (.slice (some ⟨gd, 0, none⟩) (L.take m).length c) (L.take m) by
        have h_ := S_cut HR.out.row rfl m (List.replicate (L.length - m) (.slice none 0 0)) (by rw [List.length_replicate]; omega)
        rw [List.length_take, Nat.min_eq_left (by omega), ews]
        exact h_)
      have hgg : g ≠ gd := fun e => by
        have h_ := (Kd.S_R HR.out.row).1 gd (by simp [Value.ownBlock])
        exact h_.2 e.symm
      have HBK := Aside0.mk (show ws.heap[g]? = some (.cells #[.slice (some ⟨gd, 0, none⟩) L.length c, .int .i64 ((cnt (L.take m) : Nat) : Int)] 49 (0, 0)) by
        rw [ews, setCells_far _ _ g hgg, HR.out.blk, HC.out])
      have hd0 : ws.cell? ⟨g, 0, none⟩ = some (.slice (some ⟨gd, 0, none⟩) L.length c) := by rw [blk_cell HBK.out]; rfl
      have hdf := blk_frozen HBK.out 0
      have HKB := Aside0.mk (show Below w0.heap.size w0 ws ∧ Kept w ws ok by
        obtain ⟨q1, q2, q3, q4⟩ := setCells_same gd (List.replicate (L.length - m) (.slice none 0 0)) m wr
        have hgd := (Kd.S_R HR.out.row).1 gd (by simp [Value.ownBlock])
        have hgb := Kd.S_base HR.out.row gd (by simp [Value.ownBlock])
        have hb_ := HR.out.below
        rw [ews]
        exact ⟨⟨q1.trans hb_.os, q2.trans hb_.tape, q3.trans hb_.output, by rw [q4]; exact hb_.size, fun i hi => (setCells_far _ _ i (by omega)).trans (hb_.block i hi)⟩,
          HR.out.kept.then_ (S2 := fun k => k = gd) ⟨by rw [q4]; exact Nat.le_refl _, fun i _ hn => setCells_far _ _ i hn⟩ (fun k hk => .inl (by rw [hk]; exact hgd.1))⟩)
      have HF := Aside0.mk (show Fit (L.take m) from by have h_ := fit_cut HP.out.fit (m : Int); unfold cutL at h_; rw [if_pos (show cutB L (m : Int) = true from decide_eq_true ⟨by omega, by omega⟩), Int.toNat_natCast] at h_; exact h_)
      clear hgg ews hn0 hn1 hc1 hf1
      go_wp2
      go_ret
      refine ⟨rfl, ?_, below_set HKB.out.1 HP.out.low, HKB.out.2.setCell (.inl HP.out.okg) _⟩
      have h_ := PoolAt.put0 HF.out HP.out.okg HP.out.low rfl HBK.out HS.out
      rw [List.length_take, Nat.min_eq_left (by omega)] at h_
      exact h_

theorem slice_from {P : Program} (t e : TypeId) {i : TypeInfo} (ht : P.underlying t = some (.slice e)) (hi : P.info? e = some i) (hs : i.size = 1) (A : Option Addr) (n c m : Nat) (hm : m ≤ n) :
    ∃ A' : Option Addr, (∀ W : World, (Instr.slice t (.slice A n c) (some (.int .i64 m)) none none).run P W = .ok (.slice A' (n - m) (c - m)) W) ∧ A' = if c = m then A else A.map (·.add m) := by
  refine ⟨if c = m then A else A.map (·.add m), fun W => ?_, rfl⟩
  have hel : P.elem t = e := by simp [Program.elem, ht]
  have hu : P.underlying t = some (.slice (P.elem t)) := by rw [hel]; exact ht
  rw [run_slice_l W t A n c hu .i64 (m : Int) (by omega) (by omega), hel]
  simp [sizeOf, typeInfo, hi, sliced, Result.andThen, hs]
theorem slice_to {P : Program} (t e : TypeId) {i : TypeInfo} (ht : P.underlying t = some (.slice e)) (hi : P.info? e = some i) (A : Option Addr) (n c m : Nat) (hc : m ≤ c) :
    ∀ W : World, (Instr.slice t (.slice A n c) none (some (.int .i64 m)) none).run P W = .ok (.slice A m c) W := by
  intro W
  have hel : P.elem t = e := by simp [Program.elem, ht]
  have hu : P.underlying t = some (.slice (P.elem t)) := by rw [hel]; exact ht
  have ha : (A.map fun x => x.add 0) = A := by cases A <;> simp [Addr.add]
  rw [run_slice_h W t A n c hu .i64 (m : Int) (by omega) (by omega), hel]
  simp [sizeOf, typeInfo, hi, sliced, Result.andThen, ha]
theorem clear_none {P : Program} (t e : TypeId) (ht : P.underlying t = some (.slice e)) (A : Option Addr) (c : Nat) : ∀ (ty : TypeId) (W : World), (Builtin.clear_ #[t] ty #[.slice A 0 c]).run P W = .ok (.tuple #[]) W := by
  intro ty W
  cases A <;> simp [Builtin.clear_, run_underlying ht]
set_option maxRecDepth 100000 in
set_option maxHeartbeats 2000000 in
theorem cut_eq (w0 w : World) (ok : Nat → Prop) (g : Nat) (L : List (List Tok)) (H : PoolAt 49 w w0.heap.size ok g L) (HB : Below w0.heap.size w0 w) :
    Calls Tryz.prog 20 #[.pointer (some ⟨g, 0, none⟩), .int .i64 L.length] w fun e w' => e = .returned (.int .i64 0) ∧ PoolAt 49 w' w0.heap.size ok g L ∧ Below w0.heap.size w0 w' ∧ Kept w w' ok := by
  have HD := defs_any w _ ok g L H
  have HP := Aside0.mk H
  have HBB := Aside0.mk HB
  obtain ⟨hf, hok, hlow, A, c, hb, hS⟩ := H
  have hc0 : w.cell? ⟨g, 0, none⟩ = some (.slice A L.length c) := by rw [blk_cell hb]; rfl
  have hd0 := blk_frozen hb 0
  have hcL := (Kd.S_reads' hS).2.1
  have hdef := hf.defs
  obtain ⟨i0, hi, hz0, hz1, hz2⟩ := info_parts info63
  obtain ⟨A', hfrom, -⟩ := slice_from (P := Tryz.prog) 47 63 Tryz.underlying47 hi hz1 A L.length c L.length (Nat.le_refl _)
  rw [Nat.sub_self] at hfrom
  have hto := slice_to (P := Tryz.prog) 47 63 Tryz.underlying47 hi A L.length c L.length hcL
  have hcl := clear_none (P := Tryz.prog) 47 63 Tryz.underlying47 A' (c - L.length)
  have HN := Aside0.mk (And.intro (PoolAt.put0 hf hok hlow rfl hb hS) (And.intro (below_set (j := 0) (v := .slice A L.length c) HB hlow) ((Kept.refl w ok).setCell (p := ⟨g, 0, none⟩) (.inl hok) (.slice A L.length c))))
  clear hb hS hf HB hi hz0 hz1 hz2 hok hlow
  go_enter Tryz.func20, Tryz.ntmps20
  go_wp2_with (go_at_call 18; refine HD.mono ?_; rintro e w' ⟨rfl, rfl⟩)
  refine wp_loop_rounds 1 ?_
  rw [rounds_succ]
  go_wp2
  go_ret
  exact ⟨rfl, HN.out⟩
theorem cut_any (w0 w : World) (ok : Nat → Prop) (g : Nat) (L : List (List Tok)) (n : Int) (H : PoolAt 49 w w0.heap.size ok g L) (HB : Below w0.heap.size w0 w) :
    Calls Tryz.prog 20 #[.pointer (some ⟨g, 0, none⟩), .int .i64 n] w fun e w' => e = .returned (.int .i64 (cutR L n)) ∧ PoolAt 49 w' w0.heap.size ok g (cutL L n) ∧ Below w0.heap.size w0 w' ∧ Kept w w' ok := by
  by_cases hc : cutB L n = true
  · have h1 : cutR L n = 0 := by unfold cutR; rw [if_pos hc]
    have h2 : cutL L n = L.take n.toNat := by unfold cutL; rw [if_pos hc]
    rw [h1, h2]
    obtain ⟨h3, h4⟩ : 0 ≤ n ∧ n ≤ (L.length : Int) := by unfold cutB at hc; exact decide_eq_true_iff.1 hc
    obtain ⟨m, rfl⟩ := Int.eq_ofNat_of_zero_le h3
    rw [Int.toNat_natCast]
    by_cases hm : m = L.length
    · subst hm
      rw [List.take_length]
      exact cut_eq w0 w ok g L H HB
    · exact cut_lt w0 w ok g L m H HB (by omega)
  · have hc' := Bool.eq_false_iff.mpr hc
    have h1 := Aside0.mk (show cutR L n = 1 by unfold cutR; rw [hc']; rfl)
    have h2 := Aside0.mk (show cutL L n = L by unfold cutL; rw [hc']; rfl)
    have HD := defs_any w _ ok g L H
    have HN := Aside0.mk (And.intro H (And.intro HB (Kept.refl w ok)))
    have hno : ¬ (0 ≤ n ∧ n ≤ (L.length : Int)) := by unfold cutB at hc; exact fun h => hc (decide_eq_true h)
    clear H HB hc hc'
    by_cases h0 : n < 0
    · clear hno
      go_enter Tryz.func20, Tryz.ntmps20
      go_wp2_with (go_at_call 18; refine HD.mono ?_; rintro e w' ⟨rfl, rfl⟩)
      go_ret
      exact ⟨by rw [h1.out]; rfl, by rw [h2.out]; exact HN.out.1, HN.out.2⟩
    · have h3 : 0 ≤ n := by omega
      have h4 : (L.length : Int) < n := by omega
      clear hno
      go_enter Tryz.func20, Tryz.ntmps20
      go_wp2_with (go_at_call 18; refine HD.mono ?_; rintro e w' ⟨rfl, rfl⟩)
      go_ret
      exact ⟨by rw [h1.out]; rfl, by rw [h2.out]; exact HN.out.1, HN.out.2⟩
end Go.Proofs.YtneepokiioefgaaGreatDoor.Pools
