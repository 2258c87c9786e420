/- The law TokensFull, walked. -/
import Derived.Test.YtneepokiioefgaaGreatDoorAwake
import Derived.Deep.LoopGhost
namespace Go.Proofs.YtneepokiioefgaaGreatDoor.Pools
open Go.RowKit Go.Toks Go.Proofs.YtneepokiioefgaaGreatDoorW.PrintWords Go.Proofs.YtneepokiioefgaaGreatDoorW.PrintLast Go.Proofs.YtneepokiioefgaaGreatDoorW.PrintMore
set_option linter.unusedVariables false
set_option linter.unusedSimpArgs false
theorem row_last (L : List (List Tok)) (h : L.length < 20000) : row (opnL L) ((L.length : Int) + 1) = [] := by
  unfold row opnL
  rw [if_neg (by omega), show ((L.length : Int) + 1).toNat - 1 = L.length by omega, List.getD_eq_getElem?_getD, List.getElem?_append_right (Nat.le_refl _)]
  simp
theorem len_emt (L : List (List Tok)) (d : Int) (t : Tok) : (emtL L d t).length = L.length := by
  unfold emtL
  split
  · split
    · rfl
    · rw [List.length_set]
  · rfl
theorem cnt_emt {L : List (List Tok)} {d : Int} (t : Tok) (hd : isD L d = true) (hn : cnt L < 100000) : cnt (emtL L d t) = cnt L + 1 := by
  unfold emtL
  rw [if_pos hd, if_neg (by omega)]
  obtain ⟨h1, h2⟩ := isD_iff.1 hd
  have := cnt_set L (d.toNat - 1) (row L d ++ [t]) (by omega)
  rw [List.length_append, List.length_singleton] at this
  unfold row at this ⊢
  omega
theorem emt_full {L : List (List Tok)} {d : Int} (t : Tok) (hd : isD L d = true) (hn : 100000 ≤ cnt L) : emtL L d t = L ∧ emtR L d = (0, 5) := by
  unfold emtL emtR
  rw [if_pos hd, if_pos hn, if_pos hd, if_pos hn]
  exact ⟨rfl, rfl⟩
theorem cnt_opn (L : List (List Tok)) : cnt (opnL L) = cnt L := by
  unfold opnL
  split
  · rfl
  · rw [cnt_append]; simp [cnt]
theorem len_opn {L : List (List Tok)} (h : L.length < 20000) : (opnL L).length = L.length + 1 := by unfold opnL; rw [if_neg (by omega)]; simp
set_option maxRecDepth 100000 in
set_option maxHeartbeats 8000000 in
theorem full_good (defs each cut : Int) (w : World) (HT : Pow w) (h1 : 1 ≤ defs) (h2 : defs ≤ 20010) (h3 : 0 ≤ each) (h4 : each ≤ 110000) (h5 : ¬ (50 < defs ∧ 3 < each)) (hc0 : -9223372036854775808 ≤ cut) (hc1 : cut ≤ 9223372036854775807) :
    Calls Tryz.prog 5 #[.int .i64 defs, .int .i64 each, .int .i64 cut] w fun e w' => e = .returned (.bool true) ∧ Below w.heap.size w w' := by
  have HTT := Aside0.mk HT
  have HP0 := Aside0.mk (pool_new 49 w w (Below.refl _ _))
  have HB0 := Aside0.mk (below_alloc (Below.refl w.heap.size w) (.cells #[.slice none 0 0, .int .i64 0] 49))
  clear HT
  by_cases h6 : 50 < defs
  · have h7 : ¬ 3 < each := by omega
    clear h5
    have hu23 := Tryz.underlying23
    go_enter Tryz.func5, Tryz.ntmps5
    go_wp2_with (go_at_call 19; refine (new_any _).mono ?_; rintro e w1 ⟨rfl, rfl⟩)
    go_loopg [8, 9, 10] defs.toNat (fun kq v8 v9 v10 wr => ∃ (n mm i : Int) (L : List (List Tok)) (ok : Nat → Prop), v8 = .int .i64 n ∧ v9 = .int .i64 mm ∧ v10 = .int .i64 i ∧ Aside0 (n = (cnt L : Int) ∧ mm = (L.length : Int) ∧ 0 ≤ i ∧ i ≤ defs ∧ i + kq = defs) ∧ Aside0 (PoolAt 49 wr w.heap.size ok w.heap.size L) ∧ Aside0 (Below w.heap.size w wr))
    case atStart => exact ⟨0, 0, 0, [], _, rfl, rfl, rfl, ⟨rfl, rfl, by omega, by omega, by omega⟩, HP0, HB0⟩
    case round =>
      clear HP0 HB0
      obtain ⟨n, mm, i, L, ok, rfl, rfl, rfl, HQ, HP, HB⟩ := hrel
      obtain ⟨hn0, hn1, hm0, hm1, hi0⟩ : 0 ≤ n ∧ n ≤ 100000 ∧ 0 ≤ mm ∧ mm ≤ 20000 ∧ 0 ≤ i := by
        obtain ⟨q1, q2, q3, q4, q5⟩ := HQ.out
        have := HP.out.fit.defs
        have := HP.out.fit.toks
        omega
      by_cases hi : i < defs
      · obtain ⟨j, rfl⟩ : ∃ j, gk = j + 1 := ⟨gk - 1, by obtain ⟨q1, q2, q3, q4, q5⟩ := HQ.out; omega⟩
        by_cases hm : 20000 ≤ mm
        · have HR := Aside0.mk (show opnR L = (0, 5) by obtain ⟨q1, q2, q3, q4, q5⟩ := HQ.out; unfold opnR; rw [if_pos (by omega)])
          have HL := Aside0.mk (show opnL L = L by obtain ⟨q1, q2, q3, q4, q5⟩ := HQ.out; unfold opnL; rw [if_pos (by omega)])
          go_wp2_with (go_at_call 13; refine (open_any w _ _ _ _ HP.out HB.out).mono ?_; rintro e w2 ⟨he, hp, hb, -⟩; rw [HR.out] at he; dsimp only at he; subst he; rw [HL.out] at hp; have HP2 := Aside0.mk hp; have HB2 := Aside0.mk hb; clear hp hb)
          go_roundg j
          case measure => omega
          case rel => exact ⟨n, mm, i + 1, L, _, rfl, rfl, by go_num, ⟨by obtain ⟨q1, q2, q3, q4, q5⟩ := HQ.out; omega⟩, HP2, HB2⟩
        · have HR := Aside0.mk (show opnR L = (mm + 1, 0) by obtain ⟨q1, q2, q3, q4, q5⟩ := HQ.out; unfold opnR; rw [if_neg (by omega), q2])
          have HC := Aside0.mk (cnt_opn L)
          have HN := Aside0.mk (len_opn (L := L) (by obtain ⟨q1, q2, q3, q4, q5⟩ := HQ.out; omega))
          have hm2 : mm < 20000 := by omega
          go_wp2_with (go_at_call 13; refine (open_any w _ _ _ _ HP.out HB.out).mono ?_; rintro e w2 ⟨he, hp, hb, -⟩; rw [HR.out] at he; dsimp only at he; subst he; have HP2 := Aside0.mk hp; have HB2 := Aside0.mk hb; clear hp hb)
          go_loopg [8, 13] each.toNat (fun kq v8 v13 wr => ∃ (n k : Int) (L : List (List Tok)) (ok : Nat → Prop), v8 = .int .i64 n ∧ v13 = .int .i64 k ∧ Aside0 (n = (cnt L : Int) ∧ mm + 1 = (L.length : Int) ∧ 0 ≤ k ∧ k ≤ each ∧ k + kq = each) ∧ Aside0 (PoolAt 49 wr w.heap.size ok w.heap.size L) ∧ Aside0 (Below w.heap.size w wr))
          case atStart => exact ⟨n, 0, _, _, rfl, rfl, ⟨by obtain ⟨q1, q2, q3, q4, q5⟩ := HQ.out; have := HC.out; have := HN.out; omega⟩, HP2, HB2⟩
          case round =>
            have HQO := Aside0.mk (show 0 ≤ i ∧ i ≤ defs ∧ i + (j + 1 : Nat) = defs from by obtain ⟨q1, q2, q3, q4, q5⟩ := HQ.out; omega)
            clear HP2 HB2 HC HN HQ HP HB HR hn0 hn1
            obtain ⟨n, k, L', ok', rfl, rfl, HQ, HP, HB⟩ := hrel
            obtain ⟨hn0, hn1, hk0⟩ : 0 ≤ n ∧ n ≤ 100000 ∧ 0 ≤ k := by
              obtain ⟨q1, q2, q3, q4, q5⟩ := HQ.out
              have := HP.out.fit.toks
              omega
            have HD := Aside0.mk (show isD L' (mm + 1) = true from isD_true (by omega) (by obtain ⟨q1, q2, q3, q4, q5⟩ := HQ.out; omega))
            by_cases hk : k < each
            · obtain ⟨z, rfl⟩ : ∃ z, gk = z + 1 := ⟨gk - 1, by obtain ⟨q1, q2, q3, q4, q5⟩ := HQ.out; omega⟩
              by_cases hn : n < 100000
              · have HR := Aside0.mk (show (emtR L' (mm + 1)).2 = 0 by obtain ⟨q1, q2, q3, q4, q5⟩ := HQ.out; unfold emtR; rw [if_pos HD.out, if_neg (by omega)])
                have HC := Aside0.mk (cnt_emt (2, k, 0) HD.out (by obtain ⟨q1, q2, q3, q4, q5⟩ := HQ.out; omega))
                have HN := Aside0.mk (len_emt L' (mm + 1) (2, k, 0))
                go_wp2_with (go_at_call 14; refine (emit_any w _ _ _ L' (mm + 1) (2, k, 0) HP.out HB.out).mono ?_; rintro e w3 ⟨he, hp, hb, -⟩; rw [HR.out] at he; obtain ⟨x, ex⟩ : ∃ x, x = (emtR L' (mm + 1)).1 := ⟨_, rfl⟩; rw [← ex] at he; subst he; clear ex; have HP3 := Aside0.mk hp; have HB3 := Aside0.mk hb; clear hp hb)
                go_roundg z
                case measure => omega
                case rel => exact ⟨n + 1, k + 1, _, _, rfl, rfl, ⟨by obtain ⟨q1, q2, q3, q4, q5⟩ := HQ.out; have := HC.out; have := HN.out; omega⟩, HP3, HB3⟩
              · have hn2 : 100000 ≤ n := by omega
                have HE := Aside0.mk (emt_full (L := L') (d := mm + 1) (2, k, 0) HD.out (by obtain ⟨q1, q2, q3, q4, q5⟩ := HQ.out; omega))
                by_cases hk5 : 5 < k
                · exfalso; omega
                · go_wp2_with (go_at_call 14; refine (emit_any w _ _ _ L' (mm + 1) (2, k, 0) HP.out HB.out).mono ?_; rintro e w3 ⟨he, hp, hb, -⟩; rw [HE.out.2] at he; dsimp only at he; subst he; rw [HE.out.1] at hp; have HP3 := Aside0.mk hp; have HB3 := Aside0.mk hb; clear hp hb)
                  go_roundg z
                  case measure => omega
                  case rel => exact ⟨n, k + 1, L', _, rfl, rfl, ⟨by obtain ⟨q1, q2, q3, q4, q5⟩ := HQ.out; omega⟩, HP3, HB3⟩
            · go_wp2
              go_roundg j
              case measure => omega
              case rel => exact ⟨n, mm + 1, i + 1, L', _, rfl, rfl, rfl, ⟨by obtain ⟨q1, q2, q3, q4, q5⟩ := HQ.out; obtain ⟨r1, r2, r3⟩ := HQO.out; omega⟩, HP, HB⟩
      · by_cases hcut : 0 ≤ cut ∧ cut < mm
        · obtain ⟨hcut0, hcut1⟩ := hcut
          have hB := show cutB L cut = true by obtain ⟨q1, q2, q3, q4, q5⟩ := HQ.out; exact decide_eq_true ⟨hcut0, by omega⟩
          have HCL := Aside0.mk (show cutL L cut = L.take cut.toNat by unfold cutL; rw [if_pos hB])
          have HCR := Aside0.mk (show cutR L cut = 0 by unfold cutR; rw [if_pos hB])
          have HLT := Aside0.mk (show ((L.take cut.toNat).length : Int) = cut by obtain ⟨q1, q2, q3, q4, q5⟩ := HQ.out; rw [List.length_take]; omega)
          have HR := Aside0.mk (show opnR (L.take cut.toNat) = (cut + 1, 0) by have := HLT.out; unfold opnR; rw [if_neg (by omega), this])
          have HZ := Aside0.mk (show lenD (opnL (L.take cut.toNat)) (cut + 1) = 0 by
            have h_ := row_last (L.take cut.toNat) (by have := HLT.out; omega)
            rw [HLT.out] at h_
            unfold lenD
            rw [h_]
            split <;> rfl)
          clear hB
          go_wp2_with (first
            | (go_at_call 20; refine (cut_any w _ _ _ L cut HP.out HB.out).mono ?_; rintro e w2 ⟨he, hp, hb, -⟩; rw [HCR.out] at he; subst he; rw [HCL.out] at hp; have HP2 := Aside0.mk hp; have HB2 := Aside0.mk hb; clear hp hb)
            | (go_at_call 18; refine (defs_any _ _ _ _ _ HP2.out).mono ?_; rintro e w3 ⟨he, rfl⟩; rw [HLT.out] at he; subst he)
            | (go_at_call 13; refine (open_any w _ _ _ _ HP2.out HB2.out).mono ?_; rintro e w4 ⟨he, hp, hb, -⟩; rw [HR.out] at he; dsimp only at he; subst he; have HP3 := Aside0.mk hp; have HB3 := Aside0.mk hb; clear hp hb)
            | (go_at_call 17; refine (len_any _ _ _ _ _ (cut + 1) HP3.out).mono ?_; rintro e w5 ⟨he, rfl⟩; rw [HZ.out] at he; subst he)
            | (go_at_call 12; refine (awake_any w HTT.out _ HB3.out).mono ?_; rintro e w6 ⟨rfl, hb⟩; have HB4 := Aside0.mk hb; clear hb))
          go_ret
          exact ⟨rfl, HB4.out⟩
        · by_cases hcut0 : 0 ≤ cut
          · have hcut1 : mm ≤ cut := by omega
            clear hcut
            go_wp2_with (go_at_call 12; refine (awake_any w HTT.out _ HB.out).mono ?_; rintro e w6 ⟨rfl, hb⟩; have HB4 := Aside0.mk hb; clear hb)
            go_ret
            exact ⟨rfl, HB4.out⟩
          · have hcut1 : cut < 0 := by omega
            clear hcut
            go_wp2_with (go_at_call 12; refine (awake_any w HTT.out _ HB.out).mono ?_; rintro e w6 ⟨rfl, hb⟩; have HB4 := Aside0.mk hb; clear hb)
            go_ret
            exact ⟨rfl, HB4.out⟩
  · clear h5
    have hu23 := Tryz.underlying23
    go_enter Tryz.func5, Tryz.ntmps5
    go_wp2_with (go_at_call 19; refine (new_any _).mono ?_; rintro e w1 ⟨rfl, rfl⟩)
    go_loopg [8, 9, 10] defs.toNat (fun kq v8 v9 v10 wr => ∃ (n mm i : Int) (L : List (List Tok)) (ok : Nat → Prop), v8 = .int .i64 n ∧ v9 = .int .i64 mm ∧ v10 = .int .i64 i ∧ Aside0 (n = (cnt L : Int) ∧ mm = (L.length : Int) ∧ 0 ≤ i ∧ i ≤ defs ∧ i + kq = defs) ∧ Aside0 (PoolAt 49 wr w.heap.size ok w.heap.size L) ∧ Aside0 (Below w.heap.size w wr))
    case atStart => exact ⟨0, 0, 0, [], _, rfl, rfl, rfl, ⟨rfl, rfl, by omega, by omega, by omega⟩, HP0, HB0⟩
    case round =>
      clear HP0 HB0
      obtain ⟨n, mm, i, L, ok, rfl, rfl, rfl, HQ, HP, HB⟩ := hrel
      obtain ⟨hn0, hn1, hm0, hm1, hi0⟩ : 0 ≤ n ∧ n ≤ 100000 ∧ 0 ≤ mm ∧ mm ≤ 20000 ∧ 0 ≤ i := by
        obtain ⟨q1, q2, q3, q4, q5⟩ := HQ.out
        have := HP.out.fit.defs
        have := HP.out.fit.toks
        omega
      by_cases hi : i < defs
      · obtain ⟨j, rfl⟩ : ∃ j, gk = j + 1 := ⟨gk - 1, by obtain ⟨q1, q2, q3, q4, q5⟩ := HQ.out; omega⟩
        by_cases hm : 20000 ≤ mm
        · have HR := Aside0.mk (show opnR L = (0, 5) by obtain ⟨q1, q2, q3, q4, q5⟩ := HQ.out; unfold opnR; rw [if_pos (by omega)])
          have HL := Aside0.mk (show opnL L = L by obtain ⟨q1, q2, q3, q4, q5⟩ := HQ.out; unfold opnL; rw [if_pos (by omega)])
          go_wp2_with (go_at_call 13; refine (open_any w _ _ _ _ HP.out HB.out).mono ?_; rintro e w2 ⟨he, hp, hb, -⟩; rw [HR.out] at he; dsimp only at he; subst he; rw [HL.out] at hp; have HP2 := Aside0.mk hp; have HB2 := Aside0.mk hb; clear hp hb)
          go_roundg j
          case measure => omega
          case rel => exact ⟨n, mm, i + 1, L, _, rfl, rfl, by go_num, ⟨by obtain ⟨q1, q2, q3, q4, q5⟩ := HQ.out; omega⟩, HP2, HB2⟩
        · have HR := Aside0.mk (show opnR L = (mm + 1, 0) by obtain ⟨q1, q2, q3, q4, q5⟩ := HQ.out; unfold opnR; rw [if_neg (by omega), q2])
          have HC := Aside0.mk (cnt_opn L)
          have HN := Aside0.mk (len_opn (L := L) (by obtain ⟨q1, q2, q3, q4, q5⟩ := HQ.out; omega))
          have hm2 : mm < 20000 := by omega
          go_wp2_with (go_at_call 13; refine (open_any w _ _ _ _ HP.out HB.out).mono ?_; rintro e w2 ⟨he, hp, hb, -⟩; rw [HR.out] at he; dsimp only at he; subst he; have HP2 := Aside0.mk hp; have HB2 := Aside0.mk hb; clear hp hb)
          go_loopg [8, 13] each.toNat (fun kq v8 v13 wr => ∃ (n k : Int) (L : List (List Tok)) (ok : Nat → Prop), v8 = .int .i64 n ∧ v13 = .int .i64 k ∧ Aside0 (n = (cnt L : Int) ∧ mm + 1 = (L.length : Int) ∧ 0 ≤ k ∧ k ≤ each ∧ k + kq = each) ∧ Aside0 (PoolAt 49 wr w.heap.size ok w.heap.size L) ∧ Aside0 (Below w.heap.size w wr))
          case atStart => exact ⟨n, 0, _, _, rfl, rfl, ⟨by obtain ⟨q1, q2, q3, q4, q5⟩ := HQ.out; have := HC.out; have := HN.out; omega⟩, HP2, HB2⟩
          case round =>
            have HQO := Aside0.mk (show 0 ≤ i ∧ i ≤ defs ∧ i + (j + 1 : Nat) = defs from by obtain ⟨q1, q2, q3, q4, q5⟩ := HQ.out; omega)
            clear HP2 HB2 HC HN HQ HP HB HR hn0 hn1
            obtain ⟨n, k, L', ok', rfl, rfl, HQ, HP, HB⟩ := hrel
            obtain ⟨hn0, hn1, hk0⟩ : 0 ≤ n ∧ n ≤ 100000 ∧ 0 ≤ k := by
              obtain ⟨q1, q2, q3, q4, q5⟩ := HQ.out
              have := HP.out.fit.toks
              omega
            have HD := Aside0.mk (show isD L' (mm + 1) = true from isD_true (by omega) (by obtain ⟨q1, q2, q3, q4, q5⟩ := HQ.out; omega))
            by_cases hk : k < each
            · obtain ⟨z, rfl⟩ : ∃ z, gk = z + 1 := ⟨gk - 1, by obtain ⟨q1, q2, q3, q4, q5⟩ := HQ.out; omega⟩
              by_cases hn : n < 100000
              · have HR := Aside0.mk (show (emtR L' (mm + 1)).2 = 0 by obtain ⟨q1, q2, q3, q4, q5⟩ := HQ.out; unfold emtR; rw [if_pos HD.out, if_neg (by omega)])
                have HC := Aside0.mk (cnt_emt (2, k, 0) HD.out (by obtain ⟨q1, q2, q3, q4, q5⟩ := HQ.out; omega))
                have HN := Aside0.mk (len_emt L' (mm + 1) (2, k, 0))
                go_wp2_with (go_at_call 14; refine (emit_any w _ _ _ L' (mm + 1) (2, k, 0) HP.out HB.out).mono ?_; rintro e w3 ⟨he, hp, hb, -⟩; rw [HR.out] at he; obtain ⟨x, ex⟩ : ∃ x, x = (emtR L' (mm + 1)).1 := ⟨_, rfl⟩; rw [← ex] at he; subst he; clear ex; have HP3 := Aside0.mk hp; have HB3 := Aside0.mk hb; clear hp hb)
                go_roundg z
                case measure => omega
                case rel => exact ⟨n + 1, k + 1, _, _, rfl, rfl, ⟨by obtain ⟨q1, q2, q3, q4, q5⟩ := HQ.out; have := HC.out; have := HN.out; omega⟩, HP3, HB3⟩
              · have hn2 : 100000 ≤ n := by omega
                have HE := Aside0.mk (emt_full (L := L') (d := mm + 1) (2, k, 0) HD.out (by obtain ⟨q1, q2, q3, q4, q5⟩ := HQ.out; omega))
                by_cases hk5 : 5 < k
                · go_wp2_with (go_at_call 14; refine (emit_any w _ _ _ L' (mm + 1) (2, k, 0) HP.out HB.out).mono ?_; rintro e w3 ⟨he, hp, hb, -⟩; rw [HE.out.2] at he; dsimp only at he; subst he; rw [HE.out.1] at hp; have HP3 := Aside0.mk hp; have HB3 := Aside0.mk hb; clear hp hb)
                  go_roundg j
                  case measure => omega
                  case rel => exact ⟨n, mm + 1, i + 1, L', _, rfl, rfl, rfl, ⟨by obtain ⟨q1, q2, q3, q4, q5⟩ := HQ.out; obtain ⟨r1, r2, r3⟩ := HQO.out; omega⟩, HP3, HB3⟩
                · go_wp2_with (go_at_call 14; refine (emit_any w _ _ _ L' (mm + 1) (2, k, 0) HP.out HB.out).mono ?_; rintro e w3 ⟨he, hp, hb, -⟩; rw [HE.out.2] at he; dsimp only at he; subst he; rw [HE.out.1] at hp; have HP3 := Aside0.mk hp; have HB3 := Aside0.mk hb; clear hp hb)
                  go_roundg z
                  case measure => omega
                  case rel => exact ⟨n, k + 1, L', _, rfl, rfl, ⟨by obtain ⟨q1, q2, q3, q4, q5⟩ := HQ.out; omega⟩, HP3, HB3⟩
            · go_wp2
              go_roundg j
              case measure => omega
              case rel => exact ⟨n, mm + 1, i + 1, L', _, rfl, rfl, rfl, ⟨by obtain ⟨q1, q2, q3, q4, q5⟩ := HQ.out; obtain ⟨r1, r2, r3⟩ := HQO.out; omega⟩, HP, HB⟩
      · by_cases hcut : 0 ≤ cut ∧ cut < mm
        · obtain ⟨hcut0, hcut1⟩ := hcut
          have hB := show cutB L cut = true by obtain ⟨q1, q2, q3, q4, q5⟩ := HQ.out; exact decide_eq_true ⟨hcut0, by omega⟩
          have HCL := Aside0.mk (show cutL L cut = L.take cut.toNat by unfold cutL; rw [if_pos hB])
          have HCR := Aside0.mk (show cutR L cut = 0 by unfold cutR; rw [if_pos hB])
          have HLT := Aside0.mk (show ((L.take cut.toNat).length : Int) = cut by obtain ⟨q1, q2, q3, q4, q5⟩ := HQ.out; rw [List.length_take]; omega)
          have HR := Aside0.mk (show opnR (L.take cut.toNat) = (cut + 1, 0) by have := HLT.out; unfold opnR; rw [if_neg (by omega), this])
          have HZ := Aside0.mk (show lenD (opnL (L.take cut.toNat)) (cut + 1) = 0 by
            have h_ := row_last (L.take cut.toNat) (by have := HLT.out; omega)
            rw [HLT.out] at h_
            unfold lenD
            rw [h_]
            split <;> rfl)
          clear hB
          go_wp2_with (first
            | (go_at_call 20; refine (cut_any w _ _ _ L cut HP.out HB.out).mono ?_; rintro e w2 ⟨he, hp, hb, -⟩; rw [HCR.out] at he; subst he; rw [HCL.out] at hp; have HP2 := Aside0.mk hp; have HB2 := Aside0.mk hb; clear hp hb)
            | (go_at_call 18; refine (defs_any _ _ _ _ _ HP2.out).mono ?_; rintro e w3 ⟨he, rfl⟩; rw [HLT.out] at he; subst he)
            | (go_at_call 13; refine (open_any w _ _ _ _ HP2.out HB2.out).mono ?_; rintro e w4 ⟨he, hp, hb, -⟩; rw [HR.out] at he; dsimp only at he; subst he; have HP3 := Aside0.mk hp; have HB3 := Aside0.mk hb; clear hp hb)
            | (go_at_call 17; refine (len_any _ _ _ _ _ (cut + 1) HP3.out).mono ?_; rintro e w5 ⟨he, rfl⟩; rw [HZ.out] at he; subst he)
            | (go_at_call 12; refine (awake_any w HTT.out _ HB3.out).mono ?_; rintro e w6 ⟨rfl, hb⟩; have HB4 := Aside0.mk hb; clear hb))
          go_ret
          exact ⟨rfl, HB4.out⟩
        · by_cases hcut0 : 0 ≤ cut
          · have hcut1 : mm ≤ cut := by omega
            clear hcut
            go_wp2_with (go_at_call 12; refine (awake_any w HTT.out _ HB.out).mono ?_; rintro e w6 ⟨rfl, hb⟩; have HB4 := Aside0.mk hb; clear hb)
            go_ret
            exact ⟨rfl, HB4.out⟩
          · have hcut1 : cut < 0 := by omega
            clear hcut
            go_wp2_with (go_at_call 12; refine (awake_any w HTT.out _ HB.out).mono ?_; rintro e w6 ⟨rfl, hb⟩; have HB4 := Aside0.mk hb; clear hb)
            go_ret
            exact ⟨rfl, HB4.out⟩
theorem full_any (defs each cut : Int) (w : World) (HT : Pow w) (hc0 : -9223372036854775808 ≤ cut) (hc1 : cut ≤ 9223372036854775807) :
    Calls Tryz.prog 5 #[.int .i64 defs, .int .i64 each, .int .i64 cut] w fun e w' => e = .returned (.bool true) ∧ Below w.heap.size w w' := by
  have HTT := Aside0.mk HT
  by_cases h1 : 1 ≤ defs
  · by_cases h2 : defs ≤ 20010
    · by_cases h3 : 0 ≤ each
      · by_cases h4 : each ≤ 110000
        · by_cases h5 : 50 < defs ∧ 3 < each
          · obtain ⟨h6, h7⟩ := h5
            clear HT
            go_enter Tryz.func5, Tryz.ntmps5
            go_wp2_with (go_at_call 12; refine (awake_any w HTT.out _ (Below.refl _ _)).mono ?_; rintro e w6 ⟨rfl, hb⟩; have HB4 := Aside0.mk hb; clear hb)
            go_ret
            exact ⟨rfl, HB4.out⟩
          · exact full_good defs each cut w HT h1 h2 h3 h4 h5 hc0 hc1
        · have h5 : 110000 < each := by omega
          clear HT
          go_enter Tryz.func5, Tryz.ntmps5
          go_wp2_with (go_at_call 12; refine (awake_any w HTT.out _ (Below.refl _ _)).mono ?_; rintro e w6 ⟨rfl, hb⟩; have HB4 := Aside0.mk hb; clear hb)
          go_ret
          exact ⟨rfl, HB4.out⟩
      · have h4 : each < 0 := by omega
        clear HT
        go_enter Tryz.func5, Tryz.ntmps5
        go_wp2_with (go_at_call 12; refine (awake_any w HTT.out _ (Below.refl _ _)).mono ?_; rintro e w6 ⟨rfl, hb⟩; have HB4 := Aside0.mk hb; clear hb)
        go_ret
        exact ⟨rfl, HB4.out⟩
    · have h3 : 20010 < defs := by omega
      clear HT
      go_enter Tryz.func5, Tryz.ntmps5
      go_wp2_with (go_at_call 12; refine (awake_any w HTT.out _ (Below.refl _ _)).mono ?_; rintro e w6 ⟨rfl, hb⟩; have HB4 := Aside0.mk hb; clear hb)
      go_ret
      exact ⟨rfl, HB4.out⟩
  · have h2 : defs < 1 := by omega
    clear HT
    go_enter Tryz.func5, Tryz.ntmps5
    go_wp2_with (go_at_call 12; refine (awake_any w HTT.out _ (Below.refl _ _)).mono ?_; rintro e w6 ⟨rfl, hb⟩; have HB4 := Aside0.mk hb; clear hb)
    go_ret
    exact ⟨rfl, HB4.out⟩
end Go.Proofs.YtneepokiioefgaaGreatDoor.Pools
