/- Pools of definitions: At and Patch, of the program and of the reference, walked. -/
import Derived.Test.YtneepokiioefgaaGreatDoorEmitC
namespace Go.Proofs.YtneepokiioefgaaGreatDoor.Pools
open Go.RowKit Go.Toks Go.Proofs.YtneepokiioefgaaGreatDoorW.PrintWords Go.Proofs.YtneepokiioefgaaGreatDoorW.PrintLast Go.Proofs.YtneepokiioefgaaGreatDoorW.PrintMore
set_option linter.unusedVariables false
set_option linter.unusedSimpArgs false
theorem hasT_iff {L : List (List Tok)} {d p : Int} : hasT L d p = true ↔ isD L d = true ∧ 0 ≤ p ∧ p < ((row L d).length : Int) := by
  unfold hasT lenD
  rw [decide_eq_true_iff]
  by_cases h : isD L d = true
  · rw [if_pos h]; simp [h]
  · rw [if_neg h]; simp [h]; try omega
theorem tk_M {w : World} {base : Nat} {ok : Nat → Prop} (t : Tok) : tk.M w base ok t (tcs t) := ⟨_, _, rfl, rfl, _, _, rfl, rfl, rfl⟩
theorem tk_cs {w : World} {base : Nat} {ok : Nat → Prop} {t : Tok} {cs : List Value} (h : tk.M w base ok t cs) : cs = tcs t := by
  obtain ⟨c0, c1, rfl, rfl, c2, c3, rfl, rfl, rfl⟩ := h
  rfl
theorem PoolAt.tok_at {T : Nat} {w : World} {base : Nat} {ok : Nat → Prop} {g : Nat} {L : List (List Tok)} {d p : Int} (H : PoolAt T w base ok g L) (hT : hasT L d p = true) :
    ∃ gd c b c', w.heap[g]? = some (.cells #[.slice (some ⟨gd, 0, none⟩) L.length c, .int .i64 (cnt L)] T (0, 0)) ∧ w.cell? ⟨gd, d.toNat - 1, none⟩ = some (.slice (some ⟨b, 0, none⟩) (row L d).length c') ∧
      w.cell? ⟨b, p.toNat * 3, none⟩ = some (.int .i64 (tokD L d p).1) ∧ w.cell? ⟨b, p.toNat * 3 + 1, none⟩ = some (.int .i64 (tokD L d p).2.1) ∧ w.cell? ⟨b, p.toNat * 3 + 2, none⟩ = some (.int .i64 (tokD L d p).2.2) ∧
      w.frozen? ⟨b, p.toNat * 3 + 1, none⟩ = false ∧ base ≤ b ∧ ok b ∧
      ∀ a, PoolAt T (w.setCell ⟨b, p.toNat * 3 + 1, none⟩ (.int .i64 a)) base ok g (L.set (d.toNat - 1) ((row L d).set p.toNat ((tokD L d p).1, a, (tokD L d p).2.2))) := by
  obtain ⟨hd, hp0, hp1⟩ := hasT_iff.1 hT
  obtain ⟨h1, h2⟩ := isD_iff.1 hd
  obtain ⟨hf, hok, hlow, A, c, hb, hS⟩ := H
  obtain ⟨gd, cap, he, -, -, -⟩ := Kd.S_form hS (by omega)
  injection he with e1 e2 e3
  subst e1
  obtain ⟨oki, cs, hcl, hM, hcc, hoki, hback⟩ := Kd.S_borrow hS [] (d - 1) (by omega) (by omega)
  obtain ⟨v, rfl, hR⟩ := hM
  rw [show (d - 1).toNat = d.toNat - 1 by omega] at hR hcc hback
  have hR : Kd.R tk 23 w base oki v (row L d) := hR
  obtain ⟨b, c', rfl, hbb, -, -⟩ := Kd.R_form hR (by omega)
  have hob := hR.1 b (by simp [Value.ownBlock])
  have h3 := hcc 0 _ rfl
  rw [add_at, Nat.zero_add, show (d.toNat - 1) * rk.sz + 0 = d.toNat - 1 by show (d.toNat - 1) * 1 + 0 = _; omega] at h3
  obtain ⟨cs, hcl2, hM2, hcc2, hfr2⟩ := Kd.R_elem hR (0, 0, 0) p hp0 hp1
  have hcs := tk_cs hM2
  subst hcs
  refine ⟨gd, c, b, c', hb, h3, hcc2 0 _ rfl, hcc2 1 _ rfl, hcc2 2 _ rfl, hfr2 1, hbb, (hoki b hob).1.1, fun a => ?_⟩
  obtain ⟨hR2, hg2⟩ := Kd.R_seg hR p hp0 hp1 (c := tcs (tokD L d p)) (seg := [.int .i64 a]) (j := 1) (x' := ((tokD L d p).1, a, (tokD L d p).2.2)) (okp := fun _ => False) rfl hcc2 (by exact Nat.le_of_ble_eq_true rfl) (tk_M _) (fun _ h => h.elim)
  have e : w.setCells b (p.toNat * tk.sz + 1) [.int .i64 a] = w.setCell ⟨b, p.toNat * 3 + 1, none⟩ (.int .i64 a) := rfl
  rw [e] at hR2 hg2
  have hS2 := hback (w1 := w.setCell ⟨b, p.toNat * 3 + 1, none⟩ (.int .i64 a)) (row := some b) (x' := (row L d).set p.toNat ((tokD L d p).1, a, (tokD L d p).2.2)) hg2 (fun k hk => by injection hk with hk; subst hk; exact hob) ⟨_, rfl, hR2⟩
  have hlen : (L.set (d.toNat - 1) ((row L d).set p.toNat ((tokD L d p).1, a, (tokD L d p).2.2))).length = L.length := List.length_set
  have hcnt : cnt (L.set (d.toNat - 1) ((row L d).set p.toNat ((tokD L d p).1, a, (tokD L d p).2.2))) = cnt L := cnt_set_same _ (by rw [List.length_set]; rfl)
  refine ⟨⟨by rw [hlen]; exact hf.defs, by rw [hcnt]; exact hf.toks⟩, hok, hlow, some ⟨gd, 0, none⟩, c, ?_, ?_⟩
  · rw [hlen, hcnt]
    exact blk_far hb (fun e => (hoki b hob).1.2 e.symm) _
  · rw [hlen]
    exact hS2
theorem pw_alloc_cell {w : World} {a : Addr} {v : Value} (h : w.cell? a = some v) (o : Obj) : (w.alloc o).cell? a = some v := pw_cell_below (below_alloc (Below.refl _ _) o) h


set_option maxRecDepth 100000 in
set_option maxHeartbeats 1000000 in
theorem at_any (w : World) (base : Nat) (ok : Nat → Prop) (g : Nat) (L : List (List Tok)) (d p : Int) (H : PoolAt 49 w base ok g L) :
    Calls Tryz.prog 15 #[.pointer (some ⟨g, 0, none⟩), .int .i64 d, .int .i64 p] w fun e w' => e = .returned (.tuple #[.agg #[.int .i64 (attR L d p).1, .int .i64 (attR L d p).2.1, .int .i64 (attR L d p).2.2], .bool (hasT L d p)]) ∧ Below w.heap.size w w' := by
  have HI : ∀ o, Calls Tryz.prog 17 #[.pointer (some ⟨g, 0, none⟩), .int .i64 d] (w.alloc o) fun e w'' => e = .returned (.int .i64 (lenD L d)) ∧ w.alloc o = w'' := fun o => len_any _ _ _ g L d (H.alloc (fun _ h => h) o)
  by_cases hT : hasT L d p = true
  · obtain ⟨gd, c, b, c', hb, hc1, ha, hb1, hb2, -, -, -, -⟩ := H.tok_at hT
    have hc0 : w.cell? ⟨g, 0, none⟩ = some (.slice (some ⟨gd, 0, none⟩) L.length c) := by rw [blk_cell hb]; rfl
    obtain ⟨hd, hp0, hp1⟩ := hasT_iff.1 hT
    obtain ⟨h1, h2⟩ := isD_iff.1 hd
    have hdef := H.fit.defs
    have hi0 : 0 ≤ d - 1 := by omega
    have hi1 : d - 1 < (L.length : Int) := by omega
    have hl : lenD L d = ((row L d).length : Int) := by unfold lenD; rw [if_pos hd]
    have hll : (row L d).length ≤ 100000 := Nat.le_trans (row_le L d) H.fit.toks
    have hA := Aside0.mk (show attR L d p = tokD L d p by unfold attR; rw [if_pos hT])
    rw [hl] at HI
    have q0 := fun o => pw_alloc_cell hc0 o
    have q1 := fun o => pw_alloc_cell hc1 o
    have q2 := fun o => pw_alloc_cell ha o
    have q3 := fun o => pw_alloc_cell hb1 o
    have q4 := fun o => pw_alloc_cell hb2 o
    have HT := Aside0.mk hT
    obtain ⟨t, et⟩ : ∃ t, t = tokD L d p := ⟨_, rfl⟩
    rw [← et] at q2 q3 q4 hA
    clear hb hT hd hl H hc0 hc1 ha hb1 hb2 et
    go_enter Tryz.func15, Tryz.ntmps15
    go_wp2_with (go_at_call 17; refine (HI _).mono ?_; rintro e w' ⟨rfl, rfl⟩)
    exact bodyPost_ret (v := .tuple #[.agg #[.int .i64 t.1, .int .i64 t.2.1, .int .i64 t.2.2], .bool true]) (by simp [results, Tryz.results15, go_sem]) rfl ⟨by first | rw [hA.out, HT.out] | rw [hA.out], below_alloc (Below.refl _ _) _⟩
  · have hT := Bool.eq_false_iff.mpr hT
    have hA := Aside0.mk (show attR L d p = (0, 0, 0) by unfold attR; rw [hT]; rfl)
    have HT := Aside0.mk hT
    by_cases hp0 : 0 ≤ p
    · have hp1 : lenD L d ≤ p := by unfold hasT at hT; rw [decide_eq_false_iff_not] at hT; omega
      clear hT H
      go_enter Tryz.func15, Tryz.ntmps15
      go_wp2_with (go_at_call 17; refine (HI _).mono ?_; rintro e w' ⟨rfl, rfl⟩)
      exact bodyPost_ret (v := .tuple #[.agg #[.int .i64 0, .int .i64 0, .int .i64 0], .bool false]) (by simp [results, Tryz.results15, go_sem]) rfl ⟨by first | rw [hA.out, HT.out] | rw [hA.out], below_alloc (Below.refl _ _) _⟩
    · have hp1 : p < 0 := by omega
      clear hT H
      go_enter Tryz.func15, Tryz.ntmps15
      go_wp2_with (go_at_call 17; refine (HI _).mono ?_; rintro e w' ⟨rfl, rfl⟩)
      exact bodyPost_ret (v := .tuple #[.agg #[.int .i64 0, .int .i64 0, .int .i64 0], .bool false]) (by simp [results, Tryz.results15, go_sem]) rfl ⟨by first | rw [hA.out, HT.out] | rw [hA.out], below_alloc (Below.refl _ _) _⟩

set_option maxRecDepth 100000 in
set_option maxHeartbeats 1000000 in
theorem rat_any (w : World) (base : Nat) (ok : Nat → Prop) (g : Nat) (L : List (List Tok)) (d p : Int) (H : PoolAt 52 w base ok g L) :
    Calls Tryz.prog 34 #[.pointer (some ⟨g, 0, none⟩), .int .i64 d, .int .i64 p] w fun e w' => e = .returned (.tuple #[.agg #[.int .i64 (attR L d p).1, .int .i64 (attR L d p).2.1, .int .i64 (attR L d p).2.2], .bool (hasT L d p)]) ∧ Below w.heap.size w w' := by
  have HI : ∀ o, Calls Tryz.prog 48 #[.pointer (some ⟨g, 0, none⟩), .int .i64 d] (w.alloc o) fun e w'' => e = .returned (.bool (isD L d)) ∧ w.alloc o = w'' := fun o => ris_any 52 _ _ _ g L d (H.alloc (fun _ h => h) o)
  by_cases hT : hasT L d p = true
  · obtain ⟨gd, c, b, c', hb, hc1, ha, hb1, hb2, -, -, -, -⟩ := H.tok_at hT
    have hc0 : w.cell? ⟨g, 0, none⟩ = some (.slice (some ⟨gd, 0, none⟩) L.length c) := by rw [blk_cell hb]; rfl
    obtain ⟨hd, hp0, hp1⟩ := hasT_iff.1 hT
    obtain ⟨h1, h2⟩ := isD_iff.1 hd
    have hdef := H.fit.defs
    have hi0 : 0 ≤ d - 1 := by omega
    have hi1 : d - 1 < (L.length : Int) := by omega
    have hl : lenD L d = ((row L d).length : Int) := by unfold lenD; rw [if_pos hd]
    have hll : (row L d).length ≤ 100000 := Nat.le_trans (row_le L d) H.fit.toks
    have hA := Aside0.mk (show attR L d p = tokD L d p by unfold attR; rw [if_pos hT])
    rw [hd] at HI
    have q0 := fun o => pw_alloc_cell hc0 o
    have q1 := fun o => pw_alloc_cell hc1 o
    have q2 := fun o => pw_alloc_cell ha o
    have q3 := fun o => pw_alloc_cell hb1 o
    have q4 := fun o => pw_alloc_cell hb2 o
    have HT := Aside0.mk hT
    obtain ⟨t, et⟩ : ∃ t, t = tokD L d p := ⟨_, rfl⟩
    rw [← et] at q2 q3 q4 hA
    clear hb hT hd hl H hc0 hc1 ha hb1 hb2 et
    go_enter Tryz.func34, Tryz.ntmps34
    go_wp2_with (go_at_call 48; refine (HI _).mono ?_; rintro e w' ⟨rfl, rfl⟩)
    exact bodyPost_ret (v := .tuple #[.agg #[.int .i64 t.1, .int .i64 t.2.1, .int .i64 t.2.2], .bool true]) (by simp [results, Tryz.results34, go_sem]) rfl ⟨by first | rw [hA.out, HT.out] | rw [hA.out], below_alloc (Below.refl _ _) _⟩
  · have hT := Bool.eq_false_iff.mpr hT
    have hA := Aside0.mk (show attR L d p = (0, 0, 0) by unfold attR; rw [hT]; rfl)
    have HT := Aside0.mk hT
    by_cases hd : isD L d = true
    · obtain ⟨h1, h2⟩ := isD_iff.1 hd
      obtain ⟨gd, c, A', c', hb, hc1, -, -⟩ := H.row_at h1 h2
      have hc0 : w.cell? ⟨g, 0, none⟩ = some (.slice (some ⟨gd, 0, none⟩) L.length c) := by rw [blk_cell hb]; rfl
      have hdef := H.fit.defs
      have hi0 : 0 ≤ d - 1 := by omega
      have hi1 : d - 1 < (L.length : Int) := by omega
      have hll : (row L d).length ≤ 100000 := Nat.le_trans (row_le L d) H.fit.toks
      have q0 := fun o => pw_alloc_cell hc0 o
      have q1 := fun o => pw_alloc_cell hc1 o
      by_cases hp0 : 0 ≤ p
      · have hp1 : ((row L d).length : Int) ≤ p := by
          have h_ := hT
          unfold hasT lenD at h_
          rw [if_pos hd, decide_eq_false_iff_not] at h_
          omega
        rw [hd] at HI
        clear hT hd H hb hc0 hc1
        go_enter Tryz.func34, Tryz.ntmps34
        go_wp2_with (go_at_call 48; refine (HI _).mono ?_; rintro e w' ⟨rfl, rfl⟩)
        exact bodyPost_ret (v := .tuple #[.agg #[.int .i64 0, .int .i64 0, .int .i64 0], .bool false]) (by simp [results, Tryz.results34, go_sem]) rfl ⟨by first | rw [hA.out, HT.out] | rw [hA.out], below_alloc (Below.refl _ _) _⟩
      · have hp1 : p < 0 := by omega
        rw [hd] at HI
        clear hT hd H hb hc0 hc1
        go_enter Tryz.func34, Tryz.ntmps34
        go_wp2_with (go_at_call 48; refine (HI _).mono ?_; rintro e w' ⟨rfl, rfl⟩)
        exact bodyPost_ret (v := .tuple #[.agg #[.int .i64 0, .int .i64 0, .int .i64 0], .bool false]) (by simp [results, Tryz.results34, go_sem]) rfl ⟨by first | rw [hA.out, HT.out] | rw [hA.out], below_alloc (Below.refl _ _) _⟩
    · have hd := Bool.eq_false_iff.mpr hd
      rw [hd] at HI
      clear hT hd H
      go_enter Tryz.func34, Tryz.ntmps34
      go_wp2_with (go_at_call 48; refine (HI _).mono ?_; rintro e w' ⟨rfl, rfl⟩)
      exact bodyPost_ret (v := .tuple #[.agg #[.int .i64 0, .int .i64 0, .int .i64 0], .bool false]) (by simp [results, Tryz.results34, go_sem]) rfl ⟨by first | rw [hA.out, HT.out] | rw [hA.out], below_alloc (Below.refl _ _) _⟩

set_option maxRecDepth 100000 in
set_option maxHeartbeats 2000000 in
theorem patch_any (w0 w : World) (ok : Nat → Prop) (g : Nat) (L : List (List Tok)) (d p a : Int) (H : PoolAt 49 w w0.heap.size ok g L) (HB : Below w0.heap.size w0 w) :
    Calls Tryz.prog 16 #[.pointer (some ⟨g, 0, none⟩), .int .i64 d, .int .i64 p, .int .i64 a] w fun e w' => e = .returned (.int .i64 (patR L d p a)) ∧ PoolAt 49 w' w0.heap.size ok g (patL L d p a) ∧ Below w0.heap.size w0 w' ∧ Kept w w' ok := by
  have HI : Calls Tryz.prog 17 #[.pointer (some ⟨g, 0, none⟩), .int .i64 d] w fun e w'' => e = .returned (.int .i64 (lenD L d)) ∧ w = w'' := len_any _ _ _ g L d H
  by_cases hP : patB L d p a = true
  · have hR := Aside0.mk (show patR L d p a = 0 by unfold patR; rw [if_pos hP])
    have hL := Aside0.mk (show patL L d p a = L.set (d.toNat - 1) ((row L d).set p.toNat ((tokD L d p).1, a, (tokD L d p).2.2)) by unfold patL; rw [if_pos hP])
    obtain ⟨hT, ha0⟩ : hasT L d p = true ∧ 0 ≤ a := by unfold patB at hP; rw [Bool.and_eq_true, decide_eq_true_iff] at hP; exact hP
    obtain ⟨gd, c, b, c', hb, hc1, -, hb1, -, hfr, hbb, hokb, hnew⟩ := H.tok_at hT
    have hc0 : w.cell? ⟨g, 0, none⟩ = some (.slice (some ⟨gd, 0, none⟩) L.length c) := by rw [blk_cell hb]; rfl
    obtain ⟨hd, hp0, hp1⟩ := hasT_iff.1 hT
    obtain ⟨h1, h2⟩ := isD_iff.1 hd
    have hdef := H.fit.defs
    have hi0 : 0 ≤ d - 1 := by omega
    have hi1 : d - 1 < (L.length : Int) := by omega
    have hl : lenD L d = ((row L d).length : Int) := by unfold lenD; rw [if_pos hd]
    have hll : (row L d).length ≤ 100000 := Nat.le_trans (row_le L d) H.fit.toks
    rw [hl] at HI
    have HN := Aside0.mk (And.intro (hnew a) (And.intro (below_set (j := p.toNat * 3 + 1) (v := .int .i64 a) HB hbb) ((Kept.refl w ok).setCell (p := ⟨b, p.toNat * 3 + 1, none⟩) (.inl hokb) (.int .i64 a))))
    clear hb hT hd hl H hnew hbb hokb HB hP
    go_enter Tryz.func16, Tryz.ntmps16
    go_wp2_with (go_at_call 17; refine HI.mono ?_; rintro e w' ⟨rfl, rfl⟩)
    go_ret
    exact ⟨by rw [hR.out]; rfl, by rw [hL.out]; exact HN.out.1, HN.out.2⟩
  · have hP' := Bool.eq_false_iff.mpr hP
    have hR := Aside0.mk (show patR L d p a = 1 by unfold patR; rw [hP']; rfl)
    have hL := Aside0.mk (show patL L d p a = L by unfold patL; rw [hP']; rfl)
    have HN := Aside0.mk (And.intro H (And.intro HB (Kept.refl w ok)))
    have hno : ¬ (0 ≤ p ∧ p < lenD L d ∧ 0 ≤ a) := by unfold patB hasT at hP; simp only [Bool.and_eq_true, decide_eq_true_iff] at hP; omega
    clear hP hP'
    by_cases hp0 : 0 ≤ p
    · by_cases hp1 : p < lenD L d
      · have ha : a < 0 := by omega
        clear hno H HB
        go_enter Tryz.func16, Tryz.ntmps16
        go_wp2_with (go_at_call 17; refine HI.mono ?_; rintro e w' ⟨rfl, rfl⟩)
        go_ret
        exact ⟨by rw [hR.out]; rfl, by rw [hL.out]; exact HN.out.1, HN.out.2⟩
      · have hp2 : lenD L d ≤ p := by omega
        clear hno H HB
        go_enter Tryz.func16, Tryz.ntmps16
        go_wp2_with (go_at_call 17; refine HI.mono ?_; rintro e w' ⟨rfl, rfl⟩)
        go_ret
        exact ⟨by rw [hR.out]; rfl, by rw [hL.out]; exact HN.out.1, HN.out.2⟩
    · have hp2 : p < 0 := by omega
      clear hno H HB
      go_enter Tryz.func16, Tryz.ntmps16
      go_wp2_with (go_at_call 17; refine HI.mono ?_; rintro e w' ⟨rfl, rfl⟩)
      go_ret
      exact ⟨by rw [hR.out]; rfl, by rw [hL.out]; exact HN.out.1, HN.out.2⟩

set_option maxRecDepth 100000 in
set_option maxHeartbeats 2000000 in
theorem rpatch_any (w0 w : World) (ok : Nat → Prop) (g : Nat) (L : List (List Tok)) (d p a : Int) (H : PoolAt 52 w w0.heap.size ok g L) (HB : Below w0.heap.size w0 w) :
    Calls Tryz.prog 33 #[.pointer (some ⟨g, 0, none⟩), .int .i64 d, .int .i64 p, .int .i64 a] w fun e w' => e = .returned (.int .i64 (patR L d p a)) ∧ PoolAt 52 w' w0.heap.size ok g (patL L d p a) ∧ Below w0.heap.size w0 w' ∧ Kept w w' ok := by
  have HI : Calls Tryz.prog 48 #[.pointer (some ⟨g, 0, none⟩), .int .i64 d] w fun e w'' => e = .returned (.bool (isD L d)) ∧ w = w'' := ris_any 52 _ _ _ g L d H
  by_cases hP : patB L d p a = true
  · have hR := Aside0.mk (show patR L d p a = 0 by unfold patR; rw [if_pos hP])
    have hL := Aside0.mk (show patL L d p a = L.set (d.toNat - 1) ((row L d).set p.toNat ((tokD L d p).1, a, (tokD L d p).2.2)) by unfold patL; rw [if_pos hP])
    obtain ⟨hT, ha0⟩ : hasT L d p = true ∧ 0 ≤ a := by unfold patB at hP; rw [Bool.and_eq_true, decide_eq_true_iff] at hP; exact hP
    obtain ⟨gd, c, b, c', hb, hc1, -, hb1, -, hfr, hbb, hokb, hnew⟩ := H.tok_at hT
    have hc0 : w.cell? ⟨g, 0, none⟩ = some (.slice (some ⟨gd, 0, none⟩) L.length c) := by rw [blk_cell hb]; rfl
    obtain ⟨hd, hp0, hp1⟩ := hasT_iff.1 hT
    obtain ⟨h1, h2⟩ := isD_iff.1 hd
    have hdef := H.fit.defs
    have hi0 : 0 ≤ d - 1 := by omega
    have hi1 : d - 1 < (L.length : Int) := by omega
    have hl : lenD L d = ((row L d).length : Int) := by unfold lenD; rw [if_pos hd]
    have hll : (row L d).length ≤ 100000 := Nat.le_trans (row_le L d) H.fit.toks
    rw [hd] at HI
    have HN := Aside0.mk (And.intro (hnew a) (And.intro (below_set (j := p.toNat * 3 + 1) (v := .int .i64 a) HB hbb) ((Kept.refl w ok).setCell (p := ⟨b, p.toNat * 3 + 1, none⟩) (.inl hokb) (.int .i64 a))))
    clear hb hT hd hl H hnew hbb hokb HB hP
    go_enter Tryz.func33, Tryz.ntmps33
    go_wp2_with (go_at_call 48; refine HI.mono ?_; rintro e w' ⟨rfl, rfl⟩)
    go_ret
    exact ⟨by rw [hR.out]; rfl, by rw [hL.out]; exact HN.out.1, HN.out.2⟩
  · have hP' := Bool.eq_false_iff.mpr hP
    have hR := Aside0.mk (show patR L d p a = 1 by unfold patR; rw [hP']; rfl)
    have hL := Aside0.mk (show patL L d p a = L by unfold patL; rw [hP']; rfl)
    have HN := Aside0.mk (And.intro H (And.intro HB (Kept.refl w ok)))
    have hno : ¬ (0 ≤ p ∧ p < lenD L d ∧ 0 ≤ a) := by unfold patB hasT at hP; simp only [Bool.and_eq_true, decide_eq_true_iff] at hP; omega
    clear hP hP'
    by_cases hd : isD L d = true
    · rw [hd] at HI
      have hl : lenD L d = ((row L d).length : Int) := by unfold lenD; rw [if_pos hd]
      rw [hl] at hno
      obtain ⟨h1, h2⟩ := isD_iff.1 hd
      obtain ⟨gd, c, A', c', hb, hc1, -, -⟩ := H.row_at h1 h2
      have hc0 : w.cell? ⟨g, 0, none⟩ = some (.slice (some ⟨gd, 0, none⟩) L.length c) := by rw [blk_cell hb]; rfl
      have hdef := H.fit.defs
      have hi0 : 0 ≤ d - 1 := by omega
      have hi1 : d - 1 < (L.length : Int) := by omega
      have hll : (row L d).length ≤ 100000 := Nat.le_trans (row_le L d) H.fit.toks
      clear hd hb hl
      by_cases hp0 : 0 ≤ p
      · by_cases hp1 : p < ((row L d).length : Int)
        · have ha : a < 0 := by omega
          clear hno H HB
          go_enter Tryz.func33, Tryz.ntmps33
          go_wp2_with (go_at_call 48; refine HI.mono ?_; rintro e w' ⟨rfl, rfl⟩)
          go_ret
          exact ⟨by rw [hR.out]; rfl, by rw [hL.out]; exact HN.out.1, HN.out.2⟩
        · have hp2 : ((row L d).length : Int) ≤ p := by omega
          clear hno H HB
          go_enter Tryz.func33, Tryz.ntmps33
          go_wp2_with (go_at_call 48; refine HI.mono ?_; rintro e w' ⟨rfl, rfl⟩)
          go_ret
          exact ⟨by rw [hR.out]; rfl, by rw [hL.out]; exact HN.out.1, HN.out.2⟩
      · have hp2 : p < 0 := by omega
        clear hno H HB
        go_enter Tryz.func33, Tryz.ntmps33
        go_wp2_with (go_at_call 48; refine HI.mono ?_; rintro e w' ⟨rfl, rfl⟩)
        go_ret
        exact ⟨by rw [hR.out]; rfl, by rw [hL.out]; exact HN.out.1, HN.out.2⟩
    · have hd' := Bool.eq_false_iff.mpr hd
      rw [hd'] at HI
      clear hno H HB hd hd'
      go_enter Tryz.func33, Tryz.ntmps33
      go_wp2_with (go_at_call 48; refine HI.mono ?_; rintro e w' ⟨rfl, rfl⟩)
      go_ret
      exact ⟨by rw [hR.out]; rfl, by rw [hL.out]; exact HN.out.1, HN.out.2⟩
end Go.Proofs.YtneepokiioefgaaGreatDoor.Pools
