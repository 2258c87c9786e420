/- Pools of definitions: Emit, of the program and of the reference, walked. -/
import Derived.Test.YtneepokiioefgaaGreatDoorOpen
import Derived.Deep.DeepCutAuto
import Derived.Deep.RegionLaw
namespace Go.Proofs.YtneepokiioefgaaGreatDoor.Pools
open Go.RowKit Go.Toks Go.Proofs.YtneepokiioefgaaGreatDoorW.PrintWords Go.Proofs.YtneepokiioefgaaGreatDoorW.PrintLast Go.Proofs.YtneepokiioefgaaGreatDoorW.PrintMore
set_option linter.unusedVariables false
set_option linter.unusedSimpArgs false
def tcs (t : Tok) : List Value := [.int .i64 t.1, .int .i64 t.2.1, .int .i64 t.2.2]
/-- ahead of an append to a definition: the pool (its count n), and the token in a block of its own -/
structure Mid (T : Nat) (w0 w wc : World) (ok : Nat → Prop) (g : Nat) (L : List (List Tok)) (n : Int) (t : Tok) : Prop where
  mk ::
  at_ : ∃ A c, wc.heap[g]? = some (.cells #[.slice A L.length c, .int .i64 n] T (0, 0)) ∧ Kd.S rk 63 wc w0.heap.size (fun k => (ok k ∧ k < w.heap.size) ∧ k ≠ g) (.slice A L.length c) L
  box : wc.heap[w.heap.size]? = some (.cells (tcs t).toArray 23 (0, 0))
  below : Below w0.heap.size w0 wc
  kept : Kept w wc ok
/-- behind it -/
structure Aft (T : Nat) (w0 w wc : World) (ok : Nat → Prop) (g : Nat) (L : List (List Tok)) (n : Int) : Prop where
  mk ::
  at_ : ∃ A c, wc.heap[g]? = some (.cells #[.slice A L.length c, .int .i64 n] T (0, 0)) ∧ Kd.S rk 63 wc w0.heap.size (fun k => (ok k ∨ w.heap.size ≤ k) ∧ k ≠ g) (.slice A L.length c) L
  below : Below w0.heap.size w0 wc
  kept : Kept w wc ok
theorem tk_R {w : World} {base : Nat} {ok : Nat → Prop} {v : Value} {l : List Tok} (h : Kd.R tk 23 w base ok v l) : (∀ k, v.ownBlock = some k → ok k) ∧ ∃ inner, w.ownsRow base 23 3 v l.length inner ∧ Reps (fun (t : Tok) cs => cs = tcs t) 3 l inner := by
  obtain ⟨h0, inner, ho, hr⟩ := h
  refine ⟨h0, inner, ho, hr.imp_ ?_⟩
  rintro t cs ⟨c0, c1, rfl, rfl, c2, c3, rfl, rfl, rfl⟩
  rfl
theorem R_tk {w : World} {base : Nat} {ok : Nat → Prop} {v : Value} {l : List Tok} {inner : List Value} (h0 : ∀ k, v.ownBlock = some k → ok k) (ho : w.ownsRow base 23 3 v l.length inner) (hr : Reps (fun (t : Tok) cs => cs = tcs t) 3 l inner) : Kd.R tk 23 w base ok v l :=
  ⟨h0, inner, ho, hr.imp_ (fun t cs h => ⟨_, _, by rw [h]; rfl, rfl, _, _, rfl, rfl, rfl⟩)⟩
theorem aft_of {T : Nat} {w0 w wc w1 : World} {o : Obj} {ok oki : Nat → Prop} {g gd gg c2 c' cap : Nat} {n d : Int} {L : List (List Tok)} {l : List Tok} {t : Tok} {A' : Option Addr} {inner : List Value}
    (hb2 : wc.heap[g]? = some (.cells #[.slice (some ⟨gd, 0, none⟩) L.length c2, .int .i64 n] T (0, 0)))
    (hH : Kd.H rk 63 wc w0.heap.size (fun k => (ok k ∧ k < w.heap.size) ∧ k ≠ g) (.slice (some ⟨gd, 0, none⟩) L.length c2) L (d - 1) oki [.slice A' l.length c'])
    (hoki : ∀ k, oki k → ((ok k ∧ k < w.heap.size) ∧ k ≠ g) ∧ k ≠ gd) (h0k : ∀ k, (Value.slice A' l.length c').ownBlock = some k → oki k)
    (hown : wc.ownsRow w0.heap.size 23 3 (.slice A' l.length c') l.length inner) (hrep : Reps (fun (t : Tok) cs => cs = tcs t) 3 l inner) (hbel : Below w0.heap.size w0 wc) (hkp : Kept w wc ok) (hlow : w0.heap.size ≤ w.heap.size)
    (hown1 : w1.ownsRow w0.heap.size 23 3 (.slice (some ⟨gg, 0, none⟩) (l.length + 1) cap) (l.length + 1) (inner ++ tcs t)) (hgrow : (wc.alloc o).drew.grownBy w1 (Value.slice A' l.length c').ownBlock)
    (hat : (Value.slice A' l.length c').ownBlock = some gg ∨ gg = wc.heap.size + 1) (h1 : 1 ≤ d) (h2 : d ≤ (L.length : Int)) :
    Aft T w0 w (w1.setCell ⟨gd, d.toNat - 1, none⟩ (.slice (some ⟨gg, 0, none⟩) (l.length + 1) cap)) ok g (L.set (d.toNat - 1) (l ++ [t])) n := by
  have hgd : ((ok gd ∧ gd < w.heap.size) ∧ gd ≠ g) ∧ ¬ oki gd := by
    obtain ⟨_, f, hR⟩ := hH
    exact hR.1 gd (by simp [Value.ownBlock])
  have hgdb : w0.heap.size ≤ gd := by
    obtain ⟨_, f, hR⟩ := hH
    exact Kd.R_base hR gd (by simp [Value.ownBlock])
  have hlt := blk_lt hb2
  have hle : w.heap.size ≤ wc.heap.size := hkp.1
  have hsz : (wc.alloc o).drew.heap.size = wc.heap.size + 1 := by simp
  have hng : ∀ k, (Value.slice A' l.length c').ownBlock = some k → k ≠ g := fun k hk => (hoki k (h0k k hk)).1.2
  have hgg : gg ≠ g ∧ gg ≠ gd := by
    rcases hat with h | h
    · exact ⟨hng gg h, (hoki gg (h0k gg h)).2⟩
    · exact ⟨by omega, by have := hgd.1.1.2; omega⟩
  have hb3 : w1.heap[g]? = some (.cells #[.slice (some ⟨gd, 0, none⟩) L.length c2, .int .i64 n] T (0, 0)) := blk_grown (blk_drew (blk_alloc hb2 o)) hgrow (fun h => hng g h.symm rfl)
  have hi : (d - 1).toNat = d.toNat - 1 := by omega
  have hA := Kd.H_widen (Kd.H_mono (ok' := fun k => (ok k ∨ w.heap.size ≤ k) ∧ k ≠ g) hH (fun k hk => ⟨.inl hk.1.1, hk.2⟩))
  have hB := Kd.H_grown (Kd.H_drew (Kd.H_alloc hA o)) hgrow (fun k hk => .inl (h0k k hk))
  have hC := (Kd.H_seg hB (seg := [.slice (some ⟨gg, 0, none⟩) (l.length + 1) cap]) (j := 0) (by omega) (by omega) (by exact Nat.le_refl 1) (by intro q hq; rw [List.mem_singleton.1 hq]; rfl)).1
  rw [hi, show (d.toNat - 1) * rk.sz + 0 = d.toNat - 1 by show (d.toNat - 1) * 1 + 0 = _; omega] at hC
  simp only [World.setCells] at hC
  have hD : Kd.R tk 23 w1 w0.heap.size (fun k => k = gg) (.slice (some ⟨gg, 0, none⟩) (l.length + 1) cap) (l ++ [t]) :=
    R_tk (fun k hk => by simpa [Value.ownBlock] using hk.symm) (by rw [List.length_append, List.length_singleton]; exact hown1) (hrep.snoc rfl rfl)
  have hE := Kd.R_far (p := ⟨gd, d.toNat - 1, none⟩) hD (fun k hk => by rw [hk]; exact hgg.2) (.slice (some ⟨gg, 0, none⟩) (l.length + 1) cap)
  have hF := Kd.H_back hC (x' := l ++ [t]) (okp := fun k => k = gg) ⟨_, rfl, hE⟩ (fun k hk => by
    subst hk
    rcases hat with h | h
    · exact .inl (h0k _ h)
    · exact .inr ⟨⟨.inr (by omega), hgg.1⟩, by omega⟩)
  rw [hi] at hF
  refine ⟨⟨some ⟨gd, 0, none⟩, c2, ?_, ?_⟩, ?_, ?_⟩
  · rw [List.length_set]
    exact blk_far hb3 (Ne.symm hgd.1.2) _
  · rw [List.length_set]
    exact hF
  · exact below_set (pw_below_grown (below_alloc hbel o).drew _ (by rw [hsz]; omega) hgrow (fun k hk => own_base hown k hk)) hgdb
  · exact (Kept.of_grown hgrow (hkp.alloc _).drew (fun k hk => .inl (hoki k (h0k k hk)).1.1.1)).setCell (.inl hgd.1.1.1) _
theorem Aft.pool {T : Nat} {w0 w wc : World} {ok : Nat → Prop} {g : Nat} {L : List (List Tok)} {n : Int} (h : Aft T w0 w wc ok g L n) (hf : Fit L) (hok : ok g) (hlow : w0.heap.size ≤ g) (hn : n = (cnt L : Int)) : PoolAt T wc w0.heap.size (fun k => ok k ∨ w.heap.size ≤ k) g L := by
  obtain ⟨⟨A, c, hb, hS⟩, -, -⟩ := h
  subst hn
  exact ⟨hf, .inl hok, hlow, A, c, hb, hS⟩
theorem row_set {L : List (List Tok)} {d : Int} {l : List Tok} (h1 : 1 ≤ d) (h2 : d ≤ (L.length : Int)) : row (L.set (d.toNat - 1) l) d = l := by
  unfold row
  rw [List.getD_eq_getElem?_getD, List.getElem?_set_self (by omega)]
  rfl
set_option maxRecDepth 100000 in
set_option maxHeartbeats 2000000 in
theorem emit_one (w0 w : World) (ok : Nat → Prop) (g : Nat) (L : List (List Tok)) (d : Int) (t : Tok) (H : PoolAt 49 w w0.heap.size ok g L) (HB : Below w0.heap.size w0 w) (hd : isD L d = true) (hn : cnt L < 100000) :
    Calls Tryz.prog 14 #[.pointer (some ⟨g, 0, none⟩), .int .i64 d, .agg #[.int .i64 t.1, .int .i64 t.2.1, .int .i64 t.2.2]] w fun e w' => e = .returned (.tuple #[.int .i64 (emtR L d).1, .int .i64 (emtR L d).2]) ∧ PoolAt 49 w' w0.heap.size (fun k => ok k ∨ w.heap.size ≤ k) g (emtL L d t) ∧ Below w0.heap.size w0 w' ∧ Kept w w' ok := by
  obtain ⟨h1, h2⟩ := isD_iff.1 hd
  have HE := Aside0.mk (show emtR L d = (((row L d).length : Int), 0) by unfold emtR; rw [if_pos hd, if_neg (by omega)])
  have HL := Aside0.mk (show emtL L d t = L.set (d.toNat - 1) (row L d ++ [t]) by unfold emtL; rw [if_pos hd, if_neg (by omega)])
  have HF := Aside0.mk (fit_emt H.fit d t)
  have HI : ∀ o, Calls Tryz.prog 30 #[.pointer (some ⟨g, 0, none⟩), .int .i64 d] (w.alloc o) fun e w'' => e = .returned (.bool true) ∧ w.alloc o = w'' := fun o => by
    have h_ := is_any 49 _ _ _ g L d (H.kept ((Kept.refl w (fun _ => False)).alloc o) (fun _ _ h => h))
    rw [hd] at h_
    exact h_
  have HP := Aside0.mk H
  have HBB := Aside0.mk HB
  have hglt := H.lt
  obtain ⟨hf, hok, hlow, A, c, hb, hS⟩ := H
  have hca : ∀ o, (w.alloc o).cell? ⟨g, 0, none⟩ = some (.slice A L.length c) := fun o => by rw [blk_cell (blk_alloc hb o)]; rfl
  obtain ⟨n, en⟩ : ∃ n : Int, n = (cnt L : Int) := ⟨_, rfl⟩
  have hcb : ∀ o, (w.alloc o).cell? ⟨g, 1, none⟩ = some (.int .i64 n) := fun o => by rw [blk_cell (blk_alloc hb o), en]; rfl
  have hfb : ∀ o, (w.alloc o).frozen? ⟨g, 1, none⟩ = false := fun o => blk_frozen (blk_alloc hb o) 1
  have hn0 : 0 ≤ n := by omega
  have hn1 : n < 100000 := by omega
  have hn2 : ¬ 100000 ≤ n := by omega
  have EN := Aside0.mk en
  have hb' := Aside0.mk hb
  have hS' := Aside0.mk hS
  clear hb hS hf HB hd hn en
  go_enter Tryz.func14, Tryz.ntmps14
  go_upto_region 5 with (go_at_call 30; refine (HI _).mono ?_; rintro e w' ⟨rfl, rfl⟩)
  go_cut [] (fun wc => Aside0 (Mid 49 w0 w wc ok g L (n + 1) t))
  case first =>
    go_wp2
    go_meet
    case rel =>
      refine ⟨⟨⟨A, c, ?_, ?_⟩, ?_, ?_, ?_⟩⟩
      · exact blk_alloc (by rw [blk_set hb'.out]; rfl) _
      · exact Kd.S_mono (Kd.S_alloc (Kd.S_far (Kd.S_bound hS'.out) (fun _ hk => hk.1.2) _) _) (fun k hk => ⟨⟨hk.1.1, hk.2.2.1⟩, hk.1.2⟩)
      · have hb_ := blk_new (w.setCell ⟨g, 1, none⟩ (.int .i64 (n + 1))) (Obj.cells (tcs t).toArray 23)
        rw [show (w.setCell ⟨g, 1, none⟩ (.int .i64 (n + 1))).heap.size = w.heap.size by simp [World.setCell]] at hb_
        exact hb_
      · exact below_alloc (below_set HBB.out HP.out.low) _
      · exact ((Kept.refl w ok).setCell (.inl HP.out.okg) _).alloc _
  case rest =>
    obtain ⟨wb, rfl⟩ : ∃ wb : World, wb = wc := ⟨_, rfl⟩
    obtain ⟨⟨A2, c2, hb2, hS2⟩, hbx, hbel, hkp⟩ := hcut.out
    obtain ⟨gd, cap, he, -, hgdlt, -⟩ := Kd.S_form hS2 (by omega)
    injection he with e1 e2 e3
    subst e1
    obtain ⟨oki, cs, hcl, hM, hcc, hfr, hoki, hH⟩ := Kd.S_elem hS2 [] (d - 1) (by omega) (by omega)
    obtain ⟨v, rfl, hR⟩ := hM
    obtain ⟨A', c', rfl⟩ := Kd.R_slice hR
    have h3 := hcc 0 _ rfl
    have h4 := hfr 0
    simp only [show rk.sz = 1 from rfl, Nat.mul_one, Nat.add_zero] at h3 h4
    rw [show (d - 1).toNat = d.toNat - 1 by omega] at h3 h4 hR
    obtain ⟨l, el⟩ : ∃ l, l = L.getD (d.toNat - 1) [] := ⟨_, rfl⟩
    rw [← el] at h3 hR
    rw [show L.getD (d - 1).toNat [] = l by rw [show (d - 1).toNat = d.toNat - 1 by omega]; exact el.symm] at hH
    obtain ⟨h0k, inner, hown, hrep⟩ := tk_R hR
    have ag : (Value.slice A' l.length c').ownBlock ≠ some g := fun e => (hoki g (h0k g e)).1.2 rfl
    have ad : (Value.slice A' l.length c').ownBlock ≠ some gd := fun e => (hoki gd (h0k gd e)).2 rfl
    have ax : (Value.slice A' l.length c').ownBlock ≠ some w.heap.size := fun e => Nat.lt_irrefl _ (hoki _ (h0k _ e)).1.1.2
    have lg := blk_lt hb2
    have lx := blk_lt hbx
    have hc0 : wb.cell? ⟨g, 0, none⟩ = some (.slice (some ⟨gd, 0, none⟩) L.length c2) := by rw [blk_cell hb2]; rfl
    have hx0 : wb.cell? ⟨w.heap.size, 0, none⟩ = some (.int .i64 t.1) := by rw [blk_cell hbx]; rfl
    have hx1 : wb.cell? ⟨w.heap.size, 1, none⟩ = some (.int .i64 t.2.1) := by rw [blk_cell hbx]; rfl
    have hx2 : wb.cell? ⟨w.heap.size, 2, none⟩ = some (.int .i64 t.2.2) := by rw [blk_cell hbx]; rfl
    have hi0 : 0 ≤ d - 1 := by omega
    have hi1 : d - 1 < (L.length : Int) := by omega
    have hi2 : (d - 1).toNat = d.toNat - 1 := by omega
    have hll : l.length ≤ 100000 := by rw [el]; have := cnt_row L (d.toNat - 1); have := HP.out.fit.toks; omega
    have hdef : L.length ≤ 20000 := HP.out.fit.defs
    have hiw : IntKind.i64.wrap (d - 1) = d - 1 := IntWalk.i64_in _ (by omega)
    obtain ⟨N, eN⟩ : ∃ N, N = w.heap.size := ⟨_, rfl⟩
    obtain ⟨i0, hii, hz0, hz1, hz2⟩ := info_parts info23
    have HA := Aside0.mk (fun {gg cap : Nat} {w1 : World} {o : Obj} => aft_of (o := o) (gg := gg) (cap := cap) (w1 := w1) (t := t) hb2 hH hoki h0k hown hrep hbel hkp HBB.out.size)
    have HO := Aside0.mk hown
    have Hlow := Aside0.mk hbel.size
    have HEL := Aside0.mk el
    have HAG := Aside0.mk ag
    have HAD := Aside0.mk ad
    have hH1 := Aside0.mk h1
    have hH2 := Aside0.mk h2
    clear hb2 hS2 hbx hbel hkp hcl hcc hfr hoki hH hR h0k hown hrep hcut hca hcb hfb HI hb' hS' el ag ad ax
    go_upto_region 6 with (fail)
    go_cut [] (fun wd => Aside0 (Aft 49 w0 w wd ok g (L.set (d.toNat - 1) (l ++ [t])) (n + 1)))
    case first =>
      go_region_law ((refine step_append_lies _ (by rfl) _ _ _ (by rfl) w0.heap.size 23 i0 _ 3 24 Tryz.underlying63 hii hz0 hz1 hz2 rfl (by omega) (.slice A' l.length c') l.length inner (by rfl) ((HO.out.alloc _).drew) ⟨wb.heap.size, 0, none⟩ 1 1 (tcs t) (by rfl) (by rfl) (World.news_of_block (cs := (tcs t).toArray) (t := 23) (fr := (0, 0)) (heap_alloc_new wb _)) (by simp [tcs, Value.oneCell']) (by omega) (by unfold maxLen; omega) (by omega) (by have := Hlow.out; simp; omega) (wb.heap.size + 1) (by simp) ?_; intro gg cap w1 hown1 hgrow hat hlt; have k1 := hgrow.cell_far ⟨g, 0, none⟩ (by simp; omega) (Ne.symm HAG.out); have k2 := hgrow.cell_far ⟨gd, d.toNat - 1, none⟩ (by simp; omega) (Ne.symm HAD.out); have k3 := hgrow.frozen_far ⟨gd, d.toNat - 1, none⟩ (by simp; omega) (Ne.symm HAD.out); simp [hc0, h3, h4, World.cell?_alloc_some, frozen?_alloc_cells] at k1 k2 k3))
      all_goals
        go_wp2_with fail
        go_meet
        case rel => exact ⟨HA.out hown1 hgrow hat hH1.out hH2.out⟩
    case rest =>
      have HQ := hcut.out
      have HPN := HQ.pool (by have h_ := HF.out; rw [HL.out] at h_; unfold row at h_; rw [← HEL.out] at h_; exact h_) HP.out.okg HP.out.low (by have h_ := cnt_set L (d.toNat - 1) (l ++ [t]) (by omega); rw [← HEL.out, List.length_append, List.length_singleton] at h_; have := EN.out; omega)
      obtain ⟨ge, ce, Ae, ce', hbe, hce, -, -⟩ := HPN.row_at h1 (by rw [List.length_set]; exact h2)
      rw [row_set h1 h2, List.length_append, List.length_singleton] at hce
      rw [List.length_set] at hbe
      have hc1 : wc.cell? ⟨g, 0, none⟩ = some (.slice (some ⟨ge, 0, none⟩) L.length ce) := by rw [blk_cell hbe]; rfl
      have HZ := Aside0.mk (And.intro HPN (And.intro HQ.below HQ.kept))
      clear HPN hbe HQ hcut hc0 hx0 hx1 hx2 h3 h4 HA HO
      go_wp2_with fail
      go_ret2
      exact ⟨by rw [HE.out]; unfold row; rw [← HEL.out]; rfl, by rw [HL.out]; unfold row; rw [← HEL.out]; exact HZ.out.1, HZ.out.2⟩
end Go.Proofs.YtneepokiioefgaaGreatDoor.Pools
