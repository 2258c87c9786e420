/- Pools of definitions: the reference's Emit, walked. -/
import Derived.Test.YtneepokiioefgaaGreatDoorEmit
import Derived.Deep.DeepCutAuto
import Derived.Deep.RegionLaw
namespace Go.Proofs.YtneepokiioefgaaGreatDoor.Pools
open Go.RowKit Go.Toks Go.Proofs.YtneepokiioefgaaGreatDoorW.PrintWords Go.Proofs.YtneepokiioefgaaGreatDoorW.PrintLast Go.Proofs.YtneepokiioefgaaGreatDoorW.PrintMore
set_option linter.unusedVariables false
set_option linter.unusedSimpArgs false
set_option maxRecDepth 100000 in
set_option maxHeartbeats 2000000 in
theorem remit_one (w0 w : World) (ok : Nat → Prop) (g : Nat) (L : List (List Tok)) (d : Int) (t : Tok) (H : PoolAt 52 w w0.heap.size ok g L) (HB : Below w0.heap.size w0 w) (hd : isD L d = true) (hn : cnt L < 100000) :
    Calls Tryz.prog 32 #[.pointer (some ⟨g, 0, none⟩), .int .i64 d, .agg #[.int .i64 t.1, .int .i64 t.2.1, .int .i64 t.2.2]] w fun e w' => e = .returned (.tuple #[.int .i64 (emtR L d).1, .int .i64 (emtR L d).2]) ∧ PoolAt 52 w' w0.heap.size (fun k => ok k ∨ w.heap.size ≤ k) g (emtL L d t) ∧ Below w0.heap.size w0 w' ∧ Kept w w' ok := by
  obtain ⟨h1, h2⟩ := isD_iff.1 hd
  have HE := Aside0.mk (show emtR L d = (((row L d).length : Int), 0) by unfold emtR; rw [if_pos hd, if_neg (by omega)])
  have HL := Aside0.mk (show emtL L d t = L.set (d.toNat - 1) (row L d ++ [t]) by unfold emtL; rw [if_pos hd, if_neg (by omega)])
  have HF := Aside0.mk (fit_emt H.fit d t)
  have HI : ∀ o, Calls Tryz.prog 48 #[.pointer (some ⟨g, 0, none⟩), .int .i64 d] (w.alloc o) fun e w'' => e = .returned (.bool true) ∧ w.alloc o = w'' := fun o => by
    have h_ := ris_any 52 _ _ _ g L d (H.kept ((Kept.refl w (fun _ => False)).alloc o) (fun _ _ h => h))
    rw [hd] at h_
    exact h_
  have HP := Aside0.mk H
  have HBB := Aside0.mk HB
  have hglt := H.lt
  obtain ⟨hf, hok, hlow, A, c, hb, hS⟩ := H
  have hca : ∀ o, (w.alloc o).cell? ⟨g, 0, none⟩ = some (.slice A L.length c) := fun o => by rw [blk_cell (blk_alloc hb o)]; rfl
  obtain ⟨n, en⟩ : ∃ n : Int, n = (cnt L : Int) := ⟨_, rfl⟩
  have hcb : ∀ o, (w.alloc o).cell? ⟨g, 1, none⟩ = some (.int .i64 n) := fun o => by rw [blk_cell (blk_alloc hb o), en]; rfl
  have hfb : ∀ o, (w.alloc o).frozen? ⟨g, 1, none⟩ = false := fun o => blk_frozen (blk_alloc hb o) 1
  have hn0 : 0 ≤ n := by omega
  have hn1 : n < 100000 := by omega
  have hn2 : ¬ 100000 ≤ n := by omega
  have EN := Aside0.mk en
  have hb' := Aside0.mk hb
  have hS' := Aside0.mk hS
  clear hb hS hf HB hd hn en
  go_enter Tryz.func32, Tryz.ntmps32
  have HM : Aside0 (Mid 52 w0 w (w.alloc (.cells (tcs t).toArray 23)) ok g L n t) := ⟨⟨⟨A, c, by rw [EN.out]; exact blk_alloc hb'.out _, Kd.S_mono (Kd.S_alloc (Kd.S_bound hS'.out) _) (fun k hk => ⟨⟨hk.1.1, hk.2.2.1⟩, hk.1.2⟩)⟩, blk_new w _, below_alloc HBB.out _, (Kept.refl w ok).alloc _⟩⟩
  go_wp2_with (go_at_call 48; refine (HI _).mono ?_; rintro e w' ⟨rfl, rfl⟩)
  generalize ewb : w.alloc (.cells #[.int .i64 t.1, .int .i64 t.2.1, .int .i64 t.2.2] 23) = wb
  have HM := Aside0.mk (show Mid 52 w0 w wb ok g L n t by rw [← ewb]; exact HM.out)
  clear ewb
  · obtain ⟨⟨A2, c2, hb2, hS2⟩, hbx, hbel, hkp⟩ := HM.out
    obtain ⟨gd, cap, he, -, hgdlt, -⟩ := Kd.S_form hS2 (by omega)
    injection he with e1 e2 e3
    subst e1
    obtain ⟨oki, cs, hcl, hM, hcc, hfr, hoki, hH⟩ := Kd.S_elem hS2 [] (d - 1) (by omega) (by omega)
    obtain ⟨v, rfl, hR⟩ := hM
    obtain ⟨A', c', rfl⟩ := Kd.R_slice hR
    have h3 := hcc 0 _ rfl
    have h4 := hfr 0
    simp only [show rk.sz = 1 from rfl, Nat.mul_one, Nat.add_zero] at h3 h4
    rw [show (d - 1).toNat = d.toNat - 1 by omega] at h3 h4 hR
    obtain ⟨l, el⟩ : ∃ l, l = L.getD (d.toNat - 1) [] := ⟨_, rfl⟩
    rw [← el] at h3 hR
    rw [show L.getD (d - 1).toNat [] = l by rw [show (d - 1).toNat = d.toNat - 1 by omega]; exact el.symm] at hH
    obtain ⟨h0k, inner, hown, hrep⟩ := tk_R hR
    have ag : (Value.slice A' l.length c').ownBlock ≠ some g := fun e => (hoki g (h0k g e)).1.2 rfl
    have ad : (Value.slice A' l.length c').ownBlock ≠ some gd := fun e => (hoki gd (h0k gd e)).2 rfl
    have ax : (Value.slice A' l.length c').ownBlock ≠ some w.heap.size := fun e => Nat.lt_irrefl _ (hoki _ (h0k _ e)).1.1.2
    have lg := blk_lt hb2
    have lx := blk_lt hbx
    have hc0 : wb.cell? ⟨g, 0, none⟩ = some (.slice (some ⟨gd, 0, none⟩) L.length c2) := by rw [blk_cell hb2]; rfl
    have hx0 : wb.cell? ⟨w.heap.size, 0, none⟩ = some (.int .i64 t.1) := by rw [blk_cell hbx]; rfl
    have hx1 : wb.cell? ⟨w.heap.size, 1, none⟩ = some (.int .i64 t.2.1) := by rw [blk_cell hbx]; rfl
    have hx2 : wb.cell? ⟨w.heap.size, 2, none⟩ = some (.int .i64 t.2.2) := by rw [blk_cell hbx]; rfl
    have hi0 : 0 ≤ d - 1 := by omega
    have hi1 : d - 1 < (L.length : Int) := by omega
    have hi2 : (d - 1).toNat = d.toNat - 1 := by omega
    have hll : l.length ≤ 100000 := by rw [el]; have := cnt_row L (d.toNat - 1); have := HP.out.fit.toks; omega
    have hdef : L.length ≤ 20000 := HP.out.fit.defs
    have hiw : IntKind.i64.wrap (d - 1) = d - 1 := IntWalk.i64_in _ (by omega)
    obtain ⟨N, eN⟩ : ∃ N, N = w.heap.size := ⟨_, rfl⟩
    obtain ⟨i0, hii, hz0, hz1, hz2⟩ := info_parts info23
    have HA := Aside0.mk (fun {gg cap : Nat} {w1 : World} {o : Obj} => aft_of (o := o) (gg := gg) (cap := cap) (w1 := w1) (t := t) hb2 hH hoki h0k hown hrep hbel hkp HBB.out.size)
    have HO := Aside0.mk hown
    have Hlow := Aside0.mk hbel.size
    have HEL := Aside0.mk el
    have HAG := Aside0.mk ag
    have HAD := Aside0.mk ad
    have hH1 := Aside0.mk h1
    have hH2 := Aside0.mk h2
    clear hb2 hS2 hbx hbel hkp hcl hcc hfr hoki hH hR h0k hown hrep HM hca hcb hfb HI hb' hS' el ag ad ax
    go_upto_region 5 with (fail)
    go_cut [] (fun wd => Aside0 (Aft 52 w0 w wd ok g (L.set (d.toNat - 1) (l ++ [t])) n))
    case first =>
      go_region_law ((refine step_append_lies _ (by rfl) _ _ _ (by rfl) w0.heap.size 23 i0 _ 3 24 Tryz.underlying63 hii hz0 hz1 hz2 rfl (by omega) (.slice A' l.length c') l.length inner (by rfl) ((HO.out.alloc _).drew) ⟨wb.heap.size, 0, none⟩ 1 1 (tcs t) (by rfl) (by rfl) (World.news_of_block (cs := (tcs t).toArray) (t := 23) (fr := (0, 0)) (heap_alloc_new wb _)) (by simp [tcs, Value.oneCell']) (by omega) (by unfold maxLen; omega) (by omega) (by have := Hlow.out; simp; omega) (wb.heap.size + 1) (by simp) ?_; intro gg cap w1 hown1 hgrow hat hlt; have k1 := hgrow.cell_far ⟨g, 0, none⟩ (by simp; omega) (Ne.symm HAG.out); have k2 := hgrow.cell_far ⟨gd, d.toNat - 1, none⟩ (by simp; omega) (Ne.symm HAD.out); have k3 := hgrow.frozen_far ⟨gd, d.toNat - 1, none⟩ (by simp; omega) (Ne.symm HAD.out); simp [hc0, h3, h4, World.cell?_alloc_some, frozen?_alloc_cells] at k1 k2 k3))
      all_goals
        go_wp2_with fail
        go_meet
        case rel => exact ⟨HA.out hown1 hgrow hat hH1.out hH2.out⟩
    case rest =>
      obtain ⟨w3, rfl⟩ : ∃ w3 : World, w3 = wc := ⟨_, rfl⟩
      have HQ := hcut.out
      have HFN := Aside0.mk (show Fit (L.set (d.toNat - 1) (l ++ [t])) by have h_ := HF.out; rw [HL.out] at h_; unfold row at h_; rw [← HEL.out] at h_; exact h_)
      have HCN := Aside0.mk (show ((cnt (L.set (d.toNat - 1) (l ++ [t])) : Nat) : Int) = n + 1 by have h_ := cnt_set L (d.toNat - 1) (l ++ [t]) (by omega); rw [← HEL.out, List.length_append, List.length_singleton] at h_; have := EN.out; omega)
      obtain ⟨⟨A3, c3, hb3, hS3⟩, hbel3, hkp3⟩ := HQ
      have hc0' : w3.cell? ⟨g, 1, none⟩ = some (.int .i64 n) := by rw [blk_cell hb3]; rfl
      have hc0f : w3.frozen? ⟨g, 1, none⟩ = false := blk_frozen hb3 1
      have HZ := Aside0.mk (show PoolAt 52 (w3.setCell ⟨g, 1, none⟩ (.int .i64 (n + 1))) w0.heap.size (fun k => ok k ∨ w.heap.size ≤ k) g (L.set (d.toNat - 1) (l ++ [t])) by have h_ := PoolAt.put1 HFN.out (.inl HP.out.okg) HP.out.low hb3 hS3; rw [HCN.out] at h_; exact h_)
      have HZ2 := Aside0.mk (And.intro (below_set (j := 1) (v := .int .i64 (n + 1)) hbel3 HP.out.low) (hkp3.setCell (p := ⟨g, 1, none⟩) (.inl HP.out.okg) (.int .i64 (n + 1))))
      clear hb3 hS3 hbel3 hkp3 hcut hc0 hx0 hx1 hx2 h3 h4 HA HO
      go_upto_region 6 with (fail)
      go_cut [] (fun wd => Aside0 (PoolAt 52 wd w0.heap.size (fun k => ok k ∨ w.heap.size ≤ k) g (L.set (d.toNat - 1) (l ++ [t])) ∧ Below w0.heap.size w0 wd ∧ Kept w wd ok))
      case first =>
        go_wp2_with fail
        go_meet
        case rel => exact ⟨⟨HZ.out, HZ2.out⟩⟩
      case rest =>
        have HPN := hcut.out.1
        have HZ3 := Aside0.mk hcut.out
        obtain ⟨ge, ce, Ae, ce', hbe, hce, -, -⟩ := HPN.row_at h1 (by rw [List.length_set]; exact h2)
        rw [row_set h1 h2, List.length_append, List.length_singleton] at hce
        rw [List.length_set] at hbe
        have hc1 : wc.cell? ⟨g, 0, none⟩ = some (.slice (some ⟨ge, 0, none⟩) L.length ce) := by rw [blk_cell hbe]; rfl
        clear HPN hbe hcut hc0' hc0f
        go_wp2_with fail
        go_ret2
        exact ⟨by rw [HE.out]; unfold row; rw [← HEL.out]; rfl, by rw [HL.out]; unfold row; rw [← HEL.out]; exact HZ3.out.1, HZ3.out.2⟩
end Go.Proofs.YtneepokiioefgaaGreatDoor.Pools
