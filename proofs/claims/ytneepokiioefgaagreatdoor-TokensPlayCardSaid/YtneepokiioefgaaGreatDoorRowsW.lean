/- The law TokensRows, walked. -/
import Derived.Test.YtneepokiioefgaaGreatDoorFull
import Derived.Deep.QuietTactic
import Derived.BigQuiet
namespace Go.Proofs.YtneepokiioefgaaGreatDoor.Pools
open Go.RowKit Go.Toks Go.Proofs.YtneepokiioefgaaGreatDoorW.PrintWords Go.Proofs.YtneepokiioefgaaGreatDoorW.PrintLast Go.Proofs.YtneepokiioefgaaGreatDoorW.PrintMore
set_option linter.unusedVariables false
set_option linter.unusedSimpArgs false
def tA (l : List Int) : List Tok := l.map fun x => (2, x, 0)
def tB (l : List Int) : List Tok := l.map fun x => (2, x, 1)
theorem emt_1 (A B : List Tok) (t : Tok) (h : A.length + B.length < 100000) : emtR [A, B] 1 = ((A.length : Int), 0) ∧ emtL [A, B] 1 t = [A ++ [t], B] := by
  have hd : isD [A, B] 1 = true := rfl
  have hc : cnt [A, B] = A.length + B.length := by simp [cnt]
  unfold emtR emtL
  rw [if_pos hd, if_neg (by omega), if_pos hd, if_neg (by omega)]
  exact ⟨rfl, rfl⟩
theorem emt_2 (A B : List Tok) (t : Tok) (h : A.length + B.length < 100000) : emtR [A, B] 2 = ((B.length : Int), 0) ∧ emtL [A, B] 2 t = [A, B ++ [t]] := by
  have hd : isD [A, B] 2 = true := rfl
  have hc : cnt [A, B] = A.length + B.length := by simp [cnt]
  unfold emtR emtL
  rw [if_pos hd, if_neg (by omega), if_pos hd, if_neg (by omega)]
  exact ⟨rfl, rfl⟩
theorem tA_snoc (l : List Int) (k : Nat) (h : k < l.length) : tA (l.take (k + 1)) = tA (l.take k) ++ [(2, l.getD k 0, 0)] := by
  unfold tA
  rw [List.take_succ_eq_append_getElem h, List.map_append, List.getD_eq_getElem?_getD, List.getElem?_eq_getElem h]
  rfl
theorem tB_snoc (l : List Int) (k : Nat) (h : k < l.length) : tB (l.take (k + 1)) = tB (l.take k) ++ [(2, l.getD k 0, 1)] := by
  unfold tB
  rw [List.take_succ_eq_append_getElem h, List.map_append, List.getD_eq_getElem?_getD, List.getElem?_eq_getElem h]
  rfl
theorem take_over (l : List Int) (k : Nat) (h : l.length ≤ k) : l.take (k + 1) = l.take k := by rw [List.take_of_length_le (by omega), List.take_of_length_le h]
theorem att_1 (l0 : List Int) (R : List (List Tok)) (k : Nat) (h : k < l0.length) : hasT (tA l0 :: R) 1 k = true ∧ attR (tA l0 :: R) 1 k = (2, l0.getD k 0, 0) := by
  have hr : row (tA l0 :: R) 1 = tA l0 := rfl
  have hd : isD (tA l0 :: R) 1 = true := isD_true (by omega) (by simp; omega)
  have hT : hasT (tA l0 :: R) 1 k = true := by
    unfold hasT lenD
    rw [if_pos hd, hr]
    refine decide_eq_true ⟨by omega, ?_⟩
    unfold tA
    rw [List.length_map]
    omega
  refine ⟨hT, ?_⟩
  unfold attR tokD
  rw [if_pos hT, hr, Int.toNat_natCast]
  unfold tA
  rw [List.getD_eq_getElem?_getD, List.getElem?_map, List.getElem?_eq_getElem h, List.getD_eq_getElem?_getD, List.getElem?_eq_getElem h]
  rfl
theorem att_2 (A : List Tok) (l1 : List Int) (k : Nat) (h : k < l1.length) : hasT [A, tB l1] 2 k = true ∧ attR [A, tB l1] 2 k = (2, l1.getD k 0, 1) := by
  have hr : row [A, tB l1] 2 = tB l1 := rfl
  have hd : isD [A, tB l1] 2 = true := rfl
  have hT : hasT [A, tB l1] 2 k = true := by
    unfold hasT lenD
    rw [if_pos hd, hr]
    refine decide_eq_true ⟨by omega, ?_⟩
    unfold tB
    rw [List.length_map]
    omega
  refine ⟨hT, ?_⟩
  unfold attR tokD
  rw [if_pos hT, hr, Int.toNat_natCast]
  unfold tB
  rw [List.getD_eq_getElem?_getD, List.getElem?_map, List.getElem?_eq_getElem h, List.getD_eq_getElem?_getD, List.getElem?_eq_getElem h]
  rfl
theorem att_no (A : List Tok) (k : Nat) : hasT [A] 2 k = false ∧ attR [A] 2 k = (0, 0, 0) := by
  have hT : hasT [A] 2 k = false := by
    unfold hasT lenD
    rw [show isD [A] 2 = false from rfl]
    exact decide_eq_false (fun h => by simp at h; omega)
  exact ⟨hT, by unfold attR; rw [hT]; rfl⟩
theorem PoolAt.below {T : Nat} {w w' : World} {base : Nat} {ok : Nat → Prop} {g : Nat} {L : List (List Tok)} (h : PoolAt T w base ok g L) (hb : Below w.heap.size w w') : PoolAt T w' base ok g L := by
  obtain ⟨hf, h1, h2, A, c, hbk, hS⟩ := h
  exact ⟨hf, h1, h2, A, c, blk_below hbk hb, Kd.S_below hS hb⟩
theorem PoolAt.drewN {T : Nat} {w : World} {base : Nat} {ok : Nat → Prop} {g : Nat} {L : List (List Tok)} (h : PoolAt T w base ok g L) (m : Nat) : PoolAt T (w.drewN m) base ok g L := h.below (pw_below_drewN (Below.refl _ _) m)
set_option maxRecDepth 100000 in
set_option maxHeartbeats 8000000 in
theorem rows_good (A0 : Option Addr) (c0 : Nat) (l0 : List Int) (A1 : Option Addr) (c1 : Nat) (l1 : List Int) (cut : Int) (w : World) (HT : Pow w) (hr0 : ReadsInt w .i64 A0 l0.length l0) (hr1 : ReadsInt w .i64 A1 l1.length l1) (h0 : l0.length ≤ 300) (h1 : l1.length ≤ 300) :
    Calls Tryz.prog 6 #[.slice A0 l0.length c0, .slice A1 l1.length c1, .int .i64 cut] w fun e w' => e = .returned (.bool true) ∧ Below w.heap.size w w' := by
  have HTT := Aside0.mk HT
  have HR0 := Aside0.mk hr0
  have HR1 := Aside0.mk hr1
  have HP0 := Aside0.mk (pool_new 49 w w (Below.refl _ _))
  have HB0 := Aside0.mk (below_alloc (Below.refl w.heap.size w) (.cells #[.slice none 0 0, .int .i64 0] 49))
  have hu23 := Tryz.underlying23
  have hg0 : (l0.length : Int) ≤ 300 := by omega
  have hg1 : (l1.length : Int) ≤ 300 := by omega
  clear HT hr0 hr1
  go_enter Tryz.func6, Tryz.ntmps6
  go_upto_region 6 with (go_at_call 19; refine (new_any _).mono ?_; rintro e w1 ⟨rfl, rfl⟩)
  go_cut [] (fun wc => ∃ ok1 : Nat → Prop, Aside0 (PoolAt 49 wc w.heap.size ok1 w.heap.size [[]] ∧ Below w.heap.size w wc))
  case first =>
    go_wp2_with (go_at_call 13; refine (open_any w _ _ _ _ HP0.out HB0.out).mono ?_; rintro e w2 ⟨he, hp, hb, -⟩; obtain rfl : e = .returned (.tuple #[.int .i64 1, .int .i64 0]) := he; have HP1 := Aside0.mk hp; have HB1 := Aside0.mk hb; clear hp hb)
    go_meet
    case rel => exact ⟨_, ⟨HP1.out, HB1.out⟩⟩
  case rest =>
    clear HP0 HB0
    obtain ⟨ok1, HC⟩ := hcut
    go_wp2_with (go_at_call 13; refine (open_any w _ _ _ _ HC.out.1 HC.out.2).mono ?_; rintro e w2 ⟨he, hp, hb, -⟩; obtain rfl : e = .returned (.tuple #[.int .i64 2, .int .i64 0]) := he; have HP1 := Aside0.mk hp; have HB1 := Aside0.mk hb; clear hp hb)
    go_loopg [8] (max l0.length l1.length) (fun kq v8 wr => ∃ (k : Nat) (ok : Nat → Prop), v8 = .int .i64 k ∧ Aside0 (k + kq = max l0.length l1.length) ∧ Aside0 (PoolAt 49 wr w.heap.size ok w.heap.size [tA (l0.take k), tB (l1.take k)]) ∧ Aside0 (Below w.heap.size w wr))
    case atStart => exact ⟨0, _, rfl, ⟨by omega⟩, ⟨HP1.out⟩, HB1⟩
    case round =>
      clear HP1 HB1 HC
      obtain ⟨k, ok, rfl, HQ, HP, HB⟩ := hrel
      have hk : (k : Int) ≤ 300 := by have := HQ.out; omega
      have HLN := Aside0.mk (show (tA (l0.take k)).length ≤ 300 ∧ (tB (l1.take k)).length ≤ 300 by unfold tA tB; rw [List.length_map, List.length_map, List.length_take, List.length_take]; omega)
      have hz0 : (0 : Int) ≤ (k : Int) := by omega
      by_cases ha : k < l0.length
      · have HLA := Aside0.mk (show ((tA (l0.take k)).length : Int) = k by unfold tA; rw [List.length_map, List.length_take]; omega)
        obtain ⟨j, rfl⟩ : ∃ j, gk = j + 1 := ⟨gk - 1, by have := HQ.out; omega⟩
        obtain ⟨ad, eA, hxc⟩ := HR0.out.2.2 (by omega)
        subst eA
        have hx := pw_cell_below HB.out (hxc k ha)
        obtain ⟨x, ex⟩ : ∃ x, x = l0.getD k 0 := ⟨_, rfl⟩
        rw [← ex] at hx
        have EX := Aside0.mk ex
        have ha1 : (k : Int) < (l0.length : Int) := by omega
        have HE := Aside0.mk (emt_1 (tA (l0.take k)) (tB (l1.take k)) (2, x, 0) (by have := HLN.out; omega))
        by_cases hb : k < l1.length
        · have hb1 : (k : Int) < (l1.length : Int) := by omega
          obtain ⟨bd, eB, hyc⟩ := HR1.out.2.2 (by omega)
          subst eB
          have HY := Aside0.mk (hyc k hb)
          obtain ⟨y, ey⟩ : ∃ y, y = l1.getD k 0 := ⟨_, rfl⟩
          rw [← ey] at HY
          have EY := Aside0.mk ey
          have HE2 := Aside0.mk (emt_2 (tA (l0.take k) ++ [(2, x, 0)]) (tB (l1.take k)) (2, y, 1) (by have := HLN.out; rw [List.length_append, List.length_singleton]; omega))
          clear ex ey hxc hyc
          go_wp2_with (first
            | (go_at_call_of 14 (Value.int IntKind.i64 x); refine (emit_any w _ _ _ _ 1 (2, x, 0) HP.out HB.out).mono ?_; rintro e w3 ⟨he, hp, hbl, -⟩; rw [HE.out.1, HLA.out] at he; dsimp only at he; subst he; rw [HE.out.2] at hp; have HP3 := Aside0.mk hp; have HB3 := Aside0.mk hbl; have hy := pw_cell_below hbl HY.out; clear hp hbl)
            | (go_at_call_of 14 (Value.int IntKind.i64 y); refine (emit_any w _ _ _ _ 2 (2, y, 1) HP3.out HB3.out).mono ?_; rintro e w4 ⟨he, hp, hbl, -⟩; rw [HE2.out.1] at he; dsimp only at he; subst he; rw [HE2.out.2] at hp; have HP4 := Aside0.mk hp; have HB4 := Aside0.mk hbl; clear hp hbl))
          go_roundg j
          case measure => omega
          case rel => exact ⟨k + 1, _, by go_num, ⟨by have := HQ.out; omega⟩, ⟨by rw [tA_snoc l0 k ha, tB_snoc l1 k hb, ← EX.out, ← EY.out]; exact HP4.out⟩, HB4⟩
        · have hb1 : (l1.length : Int) ≤ (k : Int) := by omega
          clear ex hxc
          go_wp2_with (go_at_call 14; refine (emit_any w _ _ _ _ 1 (2, x, 0) HP.out HB.out).mono ?_; rintro e w3 ⟨he, hp, hbl, -⟩; rw [HE.out.1, HLA.out] at he; dsimp only at he; subst he; rw [HE.out.2] at hp; have HP3 := Aside0.mk hp; have HB3 := Aside0.mk hbl; clear hp hbl)
          go_roundg j
          case measure => omega
          case rel => exact ⟨k + 1, _, by go_num, ⟨by have := HQ.out; omega⟩, ⟨by rw [tA_snoc l0 k ha, take_over l1 k (by omega), ← EX.out]; exact HP3.out⟩, HB3⟩
      · have ha1 : (l0.length : Int) ≤ (k : Int) := by omega
        by_cases hb : k < l1.length
        · obtain ⟨j, rfl⟩ : ∃ j, gk = j + 1 := ⟨gk - 1, by have := HQ.out; omega⟩
          have hb1 : (k : Int) < (l1.length : Int) := by omega
          obtain ⟨bd, eB, hyc⟩ := HR1.out.2.2 (by omega)
          subst eB
          have hy := pw_cell_below HB.out (hyc k hb)
          obtain ⟨y, ey⟩ : ∃ y, y = l1.getD k 0 := ⟨_, rfl⟩
          rw [← ey] at hy
          have EY := Aside0.mk ey
          have HE2 := Aside0.mk (emt_2 (tA (l0.take k)) (tB (l1.take k)) (2, y, 1) (by have := HLN.out; omega))
          clear ey hyc
          go_wp2_with (go_at_call 14; refine (emit_any w _ _ _ _ 2 (2, y, 1) HP.out HB.out).mono ?_; rintro e w4 ⟨he, hp, hbl, -⟩; rw [HE2.out.1] at he; dsimp only at he; subst he; rw [HE2.out.2] at hp; have HP4 := Aside0.mk hp; have HB4 := Aside0.mk hbl; clear hp hbl)
          go_roundg j
          case measure => omega
          case rel => exact ⟨k + 1, _, by go_num, ⟨by have := HQ.out; omega⟩, ⟨by rw [take_over l0 k (by omega), tB_snoc l1 k hb, ← EY.out]; exact HP4.out⟩, HB4⟩
        · have hb1 : (l1.length : Int) ≤ (k : Int) := by omega
          have HPF := Aside0.mk (show PoolAt 49 wr w.heap.size ok w.heap.size [tA l0, tB l1] by have h_ := HP.out; rw [List.take_of_length_le (by omega), List.take_of_length_le (by omega)] at h_; exact h_)
          by_cases hcut : cut = 1
          · subst hcut
            clear HP
            go_wp2_with (go_at_call 20; refine (cut_any w _ _ _ _ 1 HPF.out HB.out).mono ?_; rintro e w4 ⟨he, hp, hbl, -⟩; obtain rfl : e = .returned (.int .i64 0) := he; have HPC := Aside0.mk (show PoolAt 49 _ w.heap.size ok w.heap.size [tA l0] from hp); have HBC := Aside0.mk hbl; clear hp hbl)
            go_loopg [11] l0.length (fun kq v11 wr => ∃ k : Nat, v11 = .int .i64 k ∧ Aside0 (k + kq = l0.length) ∧ Aside0 (PoolAt 49 wr w.heap.size ok w.heap.size [tA l0]) ∧ Aside0 (Below w.heap.size w wr))
            case atStart => exact ⟨0, rfl, ⟨by omega⟩, HPC, HBC⟩
            case round =>
              clear HPC HBC
              obtain ⟨k, rfl, HQ, HP, HB⟩ := hrel
              have hk : (k : Int) ≤ 300 := by have := HQ.out; omega
              have hz0 : (0 : Int) ≤ (k : Int) := by omega
              by_cases ha : k < l0.length
              · obtain ⟨j, rfl⟩ : ∃ j, gk = j + 1 := ⟨gk - 1, by have := HQ.out; omega⟩
                obtain ⟨ad, eA, hxc⟩ := HR0.out.2.2 (by omega)
                subst eA
                have HX := Aside0.mk (pw_cell_below HB.out (hxc k ha))
                have HA := Aside0.mk (att_1 l0 [] k ha)
                obtain ⟨x, ex⟩ : ∃ x, x = l0.getD k 0 := ⟨_, rfl⟩
                rw [← ex] at HX HA
                have ha1 : (k : Int) < (l0.length : Int) := by omega
                clear ex hxc
                go_wp2_with (go_at_call 15; refine (at_any _ _ _ _ [tA l0] 1 k HP.out).mono ?_; rintro e w3 ⟨he, hbl⟩; rw [HA.out.1, HA.out.2] at he; dsimp only at he; subst he; have HP3 := Aside0.mk (HP.out.below (below_alloc hbl (.cells #[.int .i64 2, .int .i64 x, .int .i64 0] 23))); have HB3 := Aside0.mk (HB.out.trans ((below_alloc hbl (.cells #[.int .i64 2, .int .i64 x, .int .i64 0] 23)).mono HB.out.size)); have hx3 := (fun o => pw_alloc_cell (pw_cell_below hbl HX.out) o); clear hbl)
                go_quiet (fail)
                go_wp2
                go_roundg j
                case measure => omega
                case rel => exact ⟨k + 1, by go_num, ⟨by have := HQ.out; omega⟩, ⟨PoolAt.drewN HP3.out _⟩, ⟨pw_below_drewN HB3.out _⟩⟩
              · have ha1 : (l0.length : Int) ≤ (k : Int) := by omega
                have hab : decide (k < l0.length) = false := decide_eq_false ha
                go_wp2
                go_loopg [14] l1.length (fun kq v14 wr => ∃ k : Nat, v14 = .int .i64 k ∧ Aside0 (k + kq = l1.length) ∧ Aside0 (PoolAt 49 wr w.heap.size ok w.heap.size [tA l0]) ∧ Aside0 (Below w.heap.size w wr))
                case atStart => exact ⟨0, rfl, ⟨by omega⟩, HP, HB⟩
                case round =>
                  clear HP HB hk hz0 ha ha1 HQ hab
                  obtain ⟨k, rfl, HQ, HP, HB⟩ := hrel
                  have hk : (k : Int) ≤ 300 := by have := HQ.out; omega
                  have hz0 : (0 : Int) ≤ (k : Int) := by omega
                  by_cases hb : k < l1.length
                  · obtain ⟨j, rfl⟩ : ∃ j, gk = j + 1 := ⟨gk - 1, by have := HQ.out; omega⟩
                    obtain ⟨bd, eB, hyc⟩ := HR1.out.2.2 (by omega)
                    subst eB
                    have HY := Aside0.mk (pw_cell_below HB.out (hyc k hb))
                    have HA := Aside0.mk (att_no (tA l0) k)
                    obtain ⟨y, ey⟩ : ∃ y, y = l1.getD k 0 := ⟨_, rfl⟩
                    (try rw [← ey] at HA)
                    rw [← ey] at HY
                    have hb1 : (k : Int) < (l1.length : Int) := by omega
                    clear ey hyc
                    go_wp2_with (go_at_call 15; refine (at_any _ _ _ _ [tA l0] 2 k HP.out).mono ?_; rintro e w3 ⟨he, hbl⟩; rw [HA.out.1, HA.out.2] at he; dsimp only at he; subst he; have HP3 := Aside0.mk (HP.out.below (below_alloc hbl (.cells #[.int .i64 0, .int .i64 0, .int .i64 0] 23))); have HB3 := Aside0.mk (HB.out.trans ((below_alloc hbl (.cells #[.int .i64 0, .int .i64 0, .int .i64 0] 23)).mono HB.out.size)); have hy3 := (fun o => pw_alloc_cell (pw_cell_below hbl HY.out) o); clear hbl)
                    go_quiet (fail)
                    go_wp2
                    go_roundg j
                    case measure => omega
                    case rel => exact ⟨k + 1, by go_num, ⟨by have := HQ.out; omega⟩, ⟨PoolAt.drewN HP3.out _⟩, ⟨pw_below_drewN HB3.out _⟩⟩
                  · have hb1 : (l1.length : Int) ≤ (k : Int) := by omega
                    have hbb : decide (k < l1.length) = false := decide_eq_false hb
                    go_wp2_with (go_at_call 12; refine (awake_any w HTT.out _ HB.out).mono ?_; rintro e w6 ⟨rfl, hb_⟩; have HB4 := Aside0.mk hb_; clear hb_)
                    go_ret
                    exact ⟨rfl, HB4.out⟩
          · have hcb : (cut == 1) = false := by simpa using hcut
            have HPC := HPF
            have HBC := HB
            clear HP HPF HB
            go_wp2
            go_loopg [11] l0.length (fun kq v11 wr => ∃ k : Nat, v11 = .int .i64 k ∧ Aside0 (k + kq = l0.length) ∧ Aside0 (PoolAt 49 wr w.heap.size ok w.heap.size [tA l0, tB l1]) ∧ Aside0 (Below w.heap.size w wr))
            case atStart => exact ⟨0, rfl, ⟨by omega⟩, HPC, HBC⟩
            case round =>
              clear HPC HBC
              obtain ⟨k, rfl, HQ, HP, HB⟩ := hrel
              have hk : (k : Int) ≤ 300 := by have := HQ.out; omega
              have hz0 : (0 : Int) ≤ (k : Int) := by omega
              by_cases ha : k < l0.length
              · obtain ⟨j, rfl⟩ : ∃ j, gk = j + 1 := ⟨gk - 1, by have := HQ.out; omega⟩
                obtain ⟨ad, eA, hxc⟩ := HR0.out.2.2 (by omega)
                subst eA
                have HX := Aside0.mk (pw_cell_below HB.out (hxc k ha))
                have HA := Aside0.mk (att_1 l0 [tB l1] k ha)
                obtain ⟨x, ex⟩ : ∃ x, x = l0.getD k 0 := ⟨_, rfl⟩
                rw [← ex] at HX HA
                have ha1 : (k : Int) < (l0.length : Int) := by omega
                clear ex hxc
                go_wp2_with (go_at_call 15; refine (at_any _ _ _ _ [tA l0, tB l1] 1 k HP.out).mono ?_; rintro e w3 ⟨he, hbl⟩; rw [HA.out.1, HA.out.2] at he; dsimp only at he; subst he; have HP3 := Aside0.mk (HP.out.below (below_alloc hbl (.cells #[.int .i64 2, .int .i64 x, .int .i64 0] 23))); have HB3 := Aside0.mk (HB.out.trans ((below_alloc hbl (.cells #[.int .i64 2, .int .i64 x, .int .i64 0] 23)).mono HB.out.size)); have hx3 := (fun o => pw_alloc_cell (pw_cell_below hbl HX.out) o); clear hbl)
                go_quiet (fail)
                go_wp2
                go_roundg j
                case measure => omega
                case rel => exact ⟨k + 1, by go_num, ⟨by have := HQ.out; omega⟩, ⟨PoolAt.drewN HP3.out _⟩, ⟨pw_below_drewN HB3.out _⟩⟩
              · have ha1 : (l0.length : Int) ≤ (k : Int) := by omega
                have hab : decide (k < l0.length) = false := decide_eq_false ha
                go_wp2
                go_loopg [14] l1.length (fun kq v14 wr => ∃ k : Nat, v14 = .int .i64 k ∧ Aside0 (k + kq = l1.length) ∧ Aside0 (PoolAt 49 wr w.heap.size ok w.heap.size [tA l0, tB l1]) ∧ Aside0 (Below w.heap.size w wr))
                case atStart => exact ⟨0, rfl, ⟨by omega⟩, HP, HB⟩
                case round =>
                  clear HP HB hk hz0 ha ha1 HQ hab
                  obtain ⟨k, rfl, HQ, HP, HB⟩ := hrel
                  have hk : (k : Int) ≤ 300 := by have := HQ.out; omega
                  have hz0 : (0 : Int) ≤ (k : Int) := by omega
                  by_cases hb : k < l1.length
                  · obtain ⟨j, rfl⟩ : ∃ j, gk = j + 1 := ⟨gk - 1, by have := HQ.out; omega⟩
                    obtain ⟨bd, eB, hyc⟩ := HR1.out.2.2 (by omega)
                    subst eB
                    have HY := Aside0.mk (pw_cell_below HB.out (hyc k hb))
                    have HA := Aside0.mk (att_2 (tA l0) l1 k hb)
                    obtain ⟨y, ey⟩ : ∃ y, y = l1.getD k 0 := ⟨_, rfl⟩
                    (try rw [← ey] at HA)
                    rw [← ey] at HY
                    have hb1 : (k : Int) < (l1.length : Int) := by omega
                    clear ey hyc
                    go_wp2_with (go_at_call 15; refine (at_any _ _ _ _ [tA l0, tB l1] 2 k HP.out).mono ?_; rintro e w3 ⟨he, hbl⟩; rw [HA.out.1, HA.out.2] at he; dsimp only at he; subst he; have HP3 := Aside0.mk (HP.out.below (below_alloc hbl (.cells #[.int .i64 2, .int .i64 y, .int .i64 1] 23))); have HB3 := Aside0.mk (HB.out.trans ((below_alloc hbl (.cells #[.int .i64 2, .int .i64 y, .int .i64 1] 23)).mono HB.out.size)); have hy3 := (fun o => pw_alloc_cell (pw_cell_below hbl HY.out) o); clear hbl)
                    go_quiet (fail)
                    go_wp2
                    go_roundg j
                    case measure => omega
                    case rel => exact ⟨k + 1, by go_num, ⟨by have := HQ.out; omega⟩, ⟨PoolAt.drewN HP3.out _⟩, ⟨pw_below_drewN HB3.out _⟩⟩
                  · have hb1 : (l1.length : Int) ≤ (k : Int) := by omega
                    have hbb : decide (k < l1.length) = false := decide_eq_false hb
                    go_wp2_with (go_at_call 12; refine (awake_any w HTT.out _ HB.out).mono ?_; rintro e w6 ⟨rfl, hb_⟩; have HB4 := Aside0.mk hb_; clear hb_)
                    go_ret
                    exact ⟨rfl, HB4.out⟩
theorem rows_any (A0 : Option Addr) (c0 : Nat) (l0 : List Int) (A1 : Option Addr) (c1 : Nat) (l1 : List Int) (cut : Int) (w : World) (HT : Pow w) (hr0 : ReadsInt w .i64 A0 l0.length l0) (hr1 : ReadsInt w .i64 A1 l1.length l1) :
    Calls Tryz.prog 6 #[.slice A0 l0.length c0, .slice A1 l1.length c1, .int .i64 cut] w fun e w' => e = .returned (.bool true) ∧ Below w.heap.size w w' := by
  have HTT := Aside0.mk HT
  by_cases h0 : l0.length ≤ 300
  · by_cases h1 : l1.length ≤ 300
    · exact rows_good A0 c0 l0 A1 c1 l1 cut w HT hr0 hr1 h0 h1
    · have h2 : (l0.length : Int) ≤ 300 := by omega
      have h3 : (300 : Int) < (l1.length : Int) := by omega
      clear HT hr0 hr1
      go_enter Tryz.func6, Tryz.ntmps6
      go_wp2_with (go_at_call 12; refine (awake_any w HTT.out _ (Below.refl _ _)).mono ?_; rintro e w6 ⟨rfl, hb⟩; have HB4 := Aside0.mk hb; clear hb)
      go_ret
      exact ⟨rfl, HB4.out⟩
  · have h3 : (300 : Int) < (l0.length : Int) := by omega
    clear HT hr0 hr1
    go_enter Tryz.func6, Tryz.ntmps6
    go_wp2_with (go_at_call 12; refine (awake_any w HTT.out _ (Below.refl _ _)).mono ?_; rintro e w6 ⟨rfl, hb⟩; have HB4 := Aside0.mk hb; clear hb)
    go_ret
    exact ⟨rfl, HB4.out⟩
end Go.Proofs.YtneepokiioefgaaGreatDoor.Pools
