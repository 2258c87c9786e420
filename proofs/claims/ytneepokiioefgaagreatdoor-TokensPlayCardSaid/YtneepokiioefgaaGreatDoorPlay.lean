/- Do two pools tell the same: alike, walked; and the law TokensPlay. -/
import Derived.Test.YtneepokiioefgaaGreatDoorTwo
namespace Go.Proofs.YtneepokiioefgaaGreatDoor.Pools
open Go.RowKit Go.Toks Go.Proofs.YtneepokiioefgaaGreatDoorW.PrintWords Go.Proofs.YtneepokiioefgaaGreatDoorW.PrintLast Go.Proofs.YtneepokiioefgaaGreatDoorW.PrintMore
set_option linter.unusedVariables false
set_option linter.unusedSimpArgs false
theorem quiet_left {f : FuncId} {args : Array Value} {w : World} {n : Nat} {v : Value} (h : Calls Tryz.prog f args (w.drewN n) fun e w' => e = .returned v ∧ w.drewN n = w') : Calls Tryz.prog f args (w.drewN n) fun e w'' => e = .returned v ∧ ∃ m, w'' = w.drewN m :=
  h.mono fun _ _ ⟨he, hm⟩ => ⟨he, n, hm.symm⟩
set_option maxRecDepth 100000 in
set_option maxHeartbeats 8000000 in
theorem alike_any (w : World) (base : Nat) (ok1 ok2 : Nat → Prop) (g1 g2 : Nat) (L : List (List Tok)) (HP : PoolAt 49 w base ok1 g1 L) (HQ : PoolAt 52 w base ok2 g2 L) :
    Calls Tryz.prog 22 #[.pointer (some ⟨g1, 0, none⟩), .pointer (some ⟨g2, 0, none⟩)] w fun e w' => e = .returned (.bool true) ∧ Below w.heap.size w w' := by
  have HP0 := Aside0.mk HP
  have HQ0 := Aside0.mk HQ
  have hdef := HP.fit.defs
  have hc0 : ∃ A c, w.cell? ⟨g2, 0, none⟩ = some (.slice A L.length c) := by
    obtain ⟨-, -, -, A, c, hb, -⟩ := HQ
    exact ⟨A, c, by rw [blk_cell hb]; rfl⟩
  obtain ⟨A, c, hc0⟩ := hc0
  have HC0 := Aside0.mk hc0
  clear HP HQ
  go_enter Tryz.func22, Tryz.ntmps22
  go_wp2_with fail
  go_quiet ((go_at_call 18; exact quiet_left (defs_any _ _ _ _ _ (HP0.out.drewN _))))
  go_wp2
  go_loopg [5] L.length (fun kq v5 wr => ∃ d : Int, v5 = .int .i64 d ∧ Aside0 (1 ≤ d ∧ d + kq = L.length + 1) ∧ Aside0 (Below w.heap.size w wr))
  case atStart => exact ⟨1, rfl, ⟨by omega, by omega⟩, ⟨pw_below_drewN (Below.refl _ _) _⟩⟩
  case round =>
    obtain ⟨d, rfl, HD, HB⟩ := hrel
    obtain ⟨hd1, hd2⟩ := HD.out
    have hcw := pw_cell_below HB.out HC0.out
    have HPW := Aside0.mk (HP0.out.below HB.out)
    have HQW := Aside0.mk (HQ0.out.below HB.out)
    by_cases hd : d ≤ (L.length : Int)
    · obtain ⟨j, rfl⟩ : ∃ j, gk = j + 1 := ⟨gk - 1, by omega⟩
      obtain ⟨gd, cc, A', c', hbk, hcr, -, -⟩ := HQW.out.row_at hd1 hd
      have hcg : wr.cell? ⟨g2, 0, none⟩ = some (.slice (some ⟨gd, 0, none⟩) L.length cc) := by rw [blk_cell hbk]; rfl
      have HL := Aside0.mk (show lenD L d = ((row L d).length : Int) by unfold lenD; rw [if_pos (isD_true hd1 hd)])
      have hll : (row L d).length ≤ 100000 := Nat.le_trans (row_le L d) HP0.out.fit.toks
      have hi0 : 0 ≤ d - 1 := by omega
      have hi1 : d - 1 < (L.length : Int) := by omega
      have hi2 : (d - 1).toNat = d.toNat - 1 := by omega
      have hiw : IntKind.i64.wrap (d - 1) = d - 1 := IntWalk.i64_in _ (by omega)
      have HCG := Aside0.mk (And.intro hcg hcr)
      have HLC := Aside0.mk (show ∀ n, Calls Tryz.prog 17 #[.pointer (some ⟨g1, 0, none⟩), .int .i64 d] (wr.drewN n) fun e w' => e = .returned (.int .i64 ((row L d).length : Int)) ∧ wr.drewN n = w' from fun n => by have h_ := len_any _ _ _ _ _ d (HPW.out.drewN n); rw [HL.out] at h_; exact h_)
      clear hbk hcw hc0
      go_wp2_with fail
      go_quiet ((go_at_call 17; exact quiet_left (HLC.out _)))
      go_wp2
      go_loopg [6] (row L d).length (fun kq v6 wr => ∃ i : Int, v6 = .int .i64 i ∧ Aside0 (0 ≤ i ∧ i + kq = (row L d).length) ∧ Aside0 (Below w.heap.size w wr))
      case atStart => exact ⟨0, rfl, ⟨by omega, by omega⟩, ⟨pw_below_drewN HB.out _⟩⟩
      case round =>
        clear HPW HQW hcg hcr HCG HLC HB
        obtain ⟨i, rfl, HI, HB⟩ := hrel
        obtain ⟨hii0, hii1⟩ := HI.out
        have HPW := Aside0.mk (HP0.out.below HB.out)
        have HQW := Aside0.mk (HQ0.out.below HB.out)
        by_cases hi : i < ((row L d).length : Int)
        · obtain ⟨z, rfl⟩ : ∃ z, gk = z + 1 := ⟨gk - 1, by omega⟩
          have HT := Aside0.mk (hasT_iff.2 ⟨isD_true hd1 hd, hii0, hi⟩ : hasT L d i = true)
          have HA := Aside0.mk (show attR L d i = tokD L d i by unfold attR; rw [if_pos HT.out])
          obtain ⟨gd, cc, b, c', hbk, hcr, ha, hb1, hb2, -, -, -, -⟩ := HQW.out.tok_at HT.out
          have hcg : wr.cell? ⟨g2, 0, none⟩ = some (.slice (some ⟨gd, 0, none⟩) L.length cc) := by rw [blk_cell hbk]; rfl
          obtain ⟨t, et⟩ : ∃ t, t = tokD L d i := ⟨_, rfl⟩
          rw [← et] at ha hb1 hb2 HA
          have HCS := Aside0.mk (And.intro hcg (And.intro hcr (And.intro ha (And.intro hb1 hb2))))
          clear hbk et ha hb1 hb2
          go_wp2_with (go_at_call 15; refine (at_any _ _ _ _ L d i HPW.out).mono ?_; rintro e w3 ⟨he, hbl⟩; rw [HA.out, HT.out] at he; subst he; have HB3 := Aside0.mk (HB.out.trans ((below_alloc hbl (.cells #[.int .i64 t.1, .int .i64 t.2.1, .int .i64 t.2.2] 23)).mono HB.out.size)); have k0 := (fun o => pw_alloc_cell (pw_cell_below hbl HCS.out.1) o); have k1 := (fun o => pw_alloc_cell (pw_cell_below hbl HCS.out.2.1) o); have k2 := (fun o => pw_alloc_cell (pw_cell_below hbl HCS.out.2.2.1) o); have k3 := (fun o => pw_alloc_cell (pw_cell_below hbl HCS.out.2.2.2.1) o); have k4 := (fun o => pw_alloc_cell (pw_cell_below hbl HCS.out.2.2.2.2) o); clear hbl)
          go_quiet (fail)
          go_wp2
          go_roundg z
          case measure => omega
          case rel => exact ⟨i + 1, rfl, ⟨by omega, by omega⟩, ⟨pw_below_drewN HB3.out _⟩⟩
        · obtain ⟨gd, cc, A', c', hbk, hcr, -, -⟩ := HQW.out.row_at hd1 hd
          have hcg : wr.cell? ⟨g2, 0, none⟩ = some (.slice (some ⟨gd, 0, none⟩) L.length cc) := by rw [blk_cell hbk]; rfl
          have hi2 : ((row L d).length : Int) ≤ i := by omega
          clear hbk
          go_wp2
          go_roundg j
          case measure => omega
          case rel => exact ⟨d + 1, rfl, ⟨by omega, by omega⟩, HB⟩
    · have hd2 : (L.length : Int) < d := by omega
      go_wp2
      go_ret
      exact ⟨rfl, HB.out⟩
/-- a row of Steps: seven cells each -/
def ReadsSteps (w : World) (A : Option Addr) (n : Nat) : Prop := 0 < n → ∃ ad, A = some ad ∧ ∀ j, j < n → ∃ k d p t a b c : Int, w.cell? (ad.add (j * 7)) = some (.int .i64 k) ∧ w.cell? (ad.add (j * 7 + 1)) = some (.int .i64 d) ∧ w.cell? (ad.add (j * 7 + 2)) = some (.int .i64 p) ∧ w.cell? (ad.add (j * 7 + 3)) = some (.int .i64 t) ∧
  w.cell? (ad.add (j * 7 + 4)) = some (.int .i64 a) ∧ w.cell? (ad.add (j * 7 + 5)) = some (.int .i64 b) ∧ w.cell? (ad.add (j * 7 + 6)) = some (.int .i64 c)
theorem add_cell (ad : Addr) (m j : Nat) (hj : 0 < j) : ad.add (m + j) = ⟨(ad.add m).block, (ad.add m).off + j, none⟩ := by
  unfold Addr.add
  rw [if_neg (by omega)]
  by_cases h : m = 0
  · rw [if_pos h, h]; simp
  · rw [if_neg h]; simp [Nat.add_assoc]
theorem both_new (w0 w : World) (HB : Below w0.heap.size w0 w) : Both w0 ((w.alloc (.cells #[.slice none 0 0, .int .i64 0] 49)).alloc (.cells #[.slice none 0 0, .int .i64 0] 52)) w.heap.size (w.heap.size + 1) [] := by
  have h1 := pool_new 49 w0 w HB
  have h2 := pool_new 52 w0 (w.alloc (.cells #[.slice none 0 0, .int .i64 0] 49)) (below_alloc HB _)
  simp only [World.size_alloc] at h2
  exact ⟨⟨_, _, h1.below (below_alloc (Below.refl _ _) _), h2, fun k h3 h4 => by omega⟩, below_alloc (below_alloc HB _) _⟩
set_option maxRecDepth 100000 in
set_option maxHeartbeats 8000000 in
theorem play_false (A : Option Addr) (n c0 : Nat) (w : World) (HT : Pow w) (hr : ReadsSteps w A n) (hn : n ≤ 300) :
    Calls Tryz.prog 7 #[.bool false, .slice A n c0] w fun e w' => e = .returned (.bool true) ∧ Below w.heap.size w w' := by
  have HTT := Aside0.mk HT
  have HRR := Aside0.mk hr
  have HBO := Aside0.mk (show Both w _ (w.heap.size) (w.heap.size + 1) [] from both_new w w (Below.refl _ _))
  have hn1 : (n : Int) ≤ 300 := by omega
  clear HT hr
  go_enter Tryz.func7, Tryz.ntmps7
  go_wp2_with (go_at_call 19; refine (new_any _).mono ?_; rintro e w1 ⟨rfl, rfl⟩)
  go_loopg [7] n (fun kq v7 wr => ∃ (k : Nat) (L : List (List Tok)), v7 = .int .i64 k ∧ Aside0 (k + kq = n) ∧ Aside0 (Both w wr (w.heap.size) (w.heap.size + 1) L))
  case atStart => exact ⟨0, [], rfl, ⟨by omega⟩, HBO⟩
  case round =>
    clear HBO
    obtain ⟨k, L, rfl, HK, HB⟩ := hrel
    by_cases hk : k < n
    · obtain ⟨j, rfl⟩ : ∃ j, gk = j + 1 := ⟨gk - 1, by have := HK.out; omega⟩
      obtain ⟨ad, eA, hc⟩ := HRR.out (by omega)
      subst eA
      obtain ⟨s0, s1, s2, s3, s4, s5, s6, x0, x1, x2, x3, x4, x5, x6⟩ := hc k hk
      have y0 := pw_cell_below HB.out.below x0
      have y1 := pw_cell_below HB.out.below x1
      have y2 := pw_cell_below HB.out.below x2
      have y3 := pw_cell_below HB.out.below x3
      have y4 := pw_cell_below HB.out.below x4
      have y5 := pw_cell_below HB.out.below x5
      have y6 := pw_cell_below HB.out.below x6
      rw [add_cell _ _ _ (by omega)] at y1 y2 y3 y4 y5 y6
      have hk1 : (k : Int) < (n : Int) := by omega
      clear hc x0 x1 x2 x3 x4 x5 x6
      go_wp2_with (go_at_call 21; refine (does_any w _ _ _ L s0 s1 s2 s3 s4 s5 s6 HB.out).mono ?_; rintro e w3 ⟨rfl, L', hb⟩; have HB3 := Aside0.mk hb; clear hb)
      go_roundg j
      case measure => omega
      case rel => exact ⟨k + 1, L', by go_num, ⟨by have := HK.out; omega⟩, HB3⟩
    · have hk1 : (n : Int) ≤ (k : Int) := by omega
      have hkb : decide (k < n) = false := decide_eq_false hk
      obtain ⟨⟨ok1, ok2, hp, hq, -⟩, hbl⟩ := HB.out
      have HP := Aside0.mk hp
      have HQ := Aside0.mk hq
      have HBL := Aside0.mk hbl
      clear hp hq hbl
      go_wp2_with (first
        | (go_at_call 22; refine (alike_any _ _ _ _ _ _ L HP.out HQ.out).mono ?_; rintro e w3 ⟨rfl, hb⟩; have HB3 := Aside0.mk (HBL.out.trans (hb.mono HBL.out.size)); clear hb)
        | (go_at_call 12; refine (awake_any w HTT.out _ HB3.out).mono ?_; rintro e w4 ⟨rfl, hb⟩; have HB4 := Aside0.mk hb; clear hb))
      go_ret
      exact ⟨rfl, HB4.out⟩
set_option maxRecDepth 100000 in
set_option maxHeartbeats 8000000 in
theorem play_true (A : Option Addr) (n c0 : Nat) (w : World) (HT : Pow w) (hr : ReadsSteps w A n) (hn : n ≤ 300) :
    Calls Tryz.prog 7 #[.bool true, .slice A n c0] w fun e w' => e = .returned (.bool true) ∧ Below w.heap.size w w' := by
  have HTT := Aside0.mk HT
  have HRR := Aside0.mk hr
  have HBO := Aside0.mk (show Both w _ (w.heap.size + 1) (w.heap.size + 1 + 1) [] from by have h_ := both_new w (w.alloc (.cells #[.slice none 0 0, .int .i64 0] 49)) (below_alloc (Below.refl _ _) _); simp only [World.size_alloc] at h_; exact h_)
  have hn1 : (n : Int) ≤ 300 := by omega
  clear HT hr
  go_enter Tryz.func7, Tryz.ntmps7
  go_wp2_with (go_at_call 19; refine (new_any _).mono ?_; rintro e w1 ⟨rfl, rfl⟩)
  go_loopg [7] n (fun kq v7 wr => ∃ (k : Nat) (L : List (List Tok)), v7 = .int .i64 k ∧ Aside0 (k + kq = n) ∧ Aside0 (Both w wr (w.heap.size + 1) (w.heap.size + 1 + 1) L))
  case atStart => exact ⟨0, [], rfl, ⟨by omega⟩, HBO⟩
  case round =>
    clear HBO
    obtain ⟨k, L, rfl, HK, HB⟩ := hrel
    by_cases hk : k < n
    · obtain ⟨j, rfl⟩ : ∃ j, gk = j + 1 := ⟨gk - 1, by have := HK.out; omega⟩
      obtain ⟨ad, eA, hc⟩ := HRR.out (by omega)
      subst eA
      obtain ⟨s0, s1, s2, s3, s4, s5, s6, x0, x1, x2, x3, x4, x5, x6⟩ := hc k hk
      have y0 := pw_cell_below HB.out.below x0
      have y1 := pw_cell_below HB.out.below x1
      have y2 := pw_cell_below HB.out.below x2
      have y3 := pw_cell_below HB.out.below x3
      have y4 := pw_cell_below HB.out.below x4
      have y5 := pw_cell_below HB.out.below x5
      have y6 := pw_cell_below HB.out.below x6
      rw [add_cell _ _ _ (by omega)] at y1 y2 y3 y4 y5 y6
      have hk1 : (k : Int) < (n : Int) := by omega
      clear hc x0 x1 x2 x3 x4 x5 x6
      go_wp2_with (go_at_call 21; refine (does_any w _ _ _ L s0 s1 s2 s3 s4 s5 s6 HB.out).mono ?_; rintro e w3 ⟨rfl, L', hb⟩; have HB3 := Aside0.mk hb; clear hb)
      go_roundg j
      case measure => omega
      case rel => exact ⟨k + 1, L', by go_num, ⟨by have := HK.out; omega⟩, HB3⟩
    · have hk1 : (n : Int) ≤ (k : Int) := by omega
      have hkb : decide (k < n) = false := decide_eq_false hk
      obtain ⟨⟨ok1, ok2, hp, hq, -⟩, hbl⟩ := HB.out
      have HP := Aside0.mk hp
      have HQ := Aside0.mk hq
      have HBL := Aside0.mk hbl
      clear hp hq hbl
      go_wp2_with (first
        | (go_at_call 22; refine (alike_any _ _ _ _ _ _ L HP.out HQ.out).mono ?_; rintro e w3 ⟨rfl, hb⟩; have HB3 := Aside0.mk (HBL.out.trans (hb.mono HBL.out.size)); clear hb)
        | (go_at_call 12; refine (awake_any w HTT.out _ HB3.out).mono ?_; rintro e w4 ⟨rfl, hb⟩; have HB4 := Aside0.mk hb; clear hb))
      go_ret
      exact ⟨rfl, HB4.out⟩
theorem play_any (zero : Bool) (A : Option Addr) (n c0 : Nat) (w : World) (HT : Pow w) (hr : ReadsSteps w A n) :
    Calls Tryz.prog 7 #[.bool zero, .slice A n c0] w fun e w' => e = .returned (.bool true) ∧ Below w.heap.size w w' := by
  by_cases hn : n ≤ 300
  · cases zero
    · exact play_false A n c0 w HT hr hn
    · exact play_true A n c0 w HT hr hn
  · have HTT := Aside0.mk HT
    have hn1 : (300 : Int) < (n : Int) := by omega
    clear HT hr
    go_enter Tryz.func7, Tryz.ntmps7
    go_wp2_with (go_at_call 12; refine (awake_any w HTT.out _ (Below.refl _ _)).mono ?_; rintro e w6 ⟨rfl, hb⟩; have HB4 := Aside0.mk hb; clear hb)
    go_ret
    exact ⟨rfl, HB4.out⟩
end Go.Proofs.YtneepokiioefgaaGreatDoor.Pools
