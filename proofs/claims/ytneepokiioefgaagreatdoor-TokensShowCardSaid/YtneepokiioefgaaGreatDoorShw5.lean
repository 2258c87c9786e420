/- Any token is shown right, and known for a jump or none: the law TokensShow answers true at every token and every name that its row admits. This is part 5 of 6: what the session's printing program wrote for the functions reached, and the session's own lemmas. -/
import Derived.Laws.CopyOwn
import Derived.Laws.RangeAny
import Derived.Laws.ResultCell
import Derived.Lib.AppendIntMem
import Derived.Lib.ItoaNum
import Derived.Lib.OthersKept
import Derived.Test.YtneepokiioefgaaGreatDoorShw2
import Derived.Test.YtneepokiioefgaaGreatDoorShw4
set_option maxHeartbeats 32000000
set_option linter.unusedVariables false
set_option linter.unusedSimpArgs false
set_option maxHeartbeats 32000000
set_option linter.unusedVariables false
set_option linter.unusedSimpArgs false
namespace Go.Proofs.YtneepokiioefgaaGreatDoor.PNat
open Go.RowKit YtneepokiioefgaaGreatDoorW.PrintWords YtneepokiioefgaaGreatDoorW.PrintLast YtneepokiioefgaaGreatDoorW.PrintMore
attribute [local go_sem] max2_int min2_int max_two min_two max_three min_three max_four min_four
mutual
def bobbinref2_Add.l0 : Nat → List Int → List Int → List Int → Int → Int → Option (List Int)
 | 0, _, _, _, _, _ => none
 | k + 1, x0, x1, x5, x6, x7 => if x7 < (x0.length : Int) then (bobbinref2_Add.j1 k x0 x1 x5 x6 x7 true) else (bobbinref2_Add.j1 k x0 x1 x5 x6 x7 (decide (x7 < (x1.length : Int))))
def bobbinref2_Add.j1 : Nat → List Int → List Int → List Int → Int → Int → Bool → Option (List Int)
 | 0, _, _, _, _, _, _ => none
 | k + 1, x0, x1, x5, x6, x7, x17 => if x17 = true then (if x7 < (x0.length : Int) then (if 0 ≤ x7 then (if x7 < (x1.length : Int) then (if x5.length < 35184372088832 then (bobbinref2_Add.l0 k x0 x1 (x5 ++ [(IntKind.u64.wrap ((IntKind.u64.wrap (x6 + (IntKind.u64.wrap (rd x0 x7)))) + (IntKind.u64.wrap (rd x1 x7)))) % 4294967296]) ((IntKind.u64.wrap ((IntKind.u64.wrap (x6 + (IntKind.u64.wrap (rd x0 x7)))) + (IntKind.u64.wrap (rd x1 x7)))) / 4294967296) (wrap64 (x7 + 1))) else (none)) else (if x5.length < 35184372088832 then (bobbinref2_Add.l0 k x0 x1 (x5 ++ [(IntKind.u64.wrap (x6 + (IntKind.u64.wrap (rd x0 x7)))) % 4294967296]) ((IntKind.u64.wrap (x6 + (IntKind.u64.wrap (rd x0 x7)))) / 4294967296) (wrap64 (x7 + 1))) else (none))) else (none)) else (if x7 < (x1.length : Int) then (if 0 ≤ x7 then (if x5.length < 35184372088832 then (bobbinref2_Add.l0 k x0 x1 (x5 ++ [(IntKind.u64.wrap (x6 + (IntKind.u64.wrap (rd x1 x7)))) % 4294967296]) ((IntKind.u64.wrap (x6 + (IntKind.u64.wrap (rd x1 x7)))) / 4294967296) (wrap64 (x7 + 1))) else (none)) else (none)) else (if x5.length < 35184372088832 then (bobbinref2_Add.l0 k x0 x1 (x5 ++ [(x6) % 4294967296]) (x6 / 4294967296) (wrap64 (x7 + 1))) else (none)))) else (if x5.length < 35184372088832 then ((bobbinref2_Norm.f k (x5 ++ [(x6) % 4294967296])).bind fun t440 => (some t440)) else (none))
end
def bobbinref2_Add.f (k : Nat) (l0 : List Int) (l1 : List Int) : Option (List Int) := bobbinref2_Add.l0 k l0 l1 ([] : List Int) 0 0
set_option maxRecDepth 100000 in
theorem bobbinref2_Add.calls (k : Nat) (A0 : Option Addr) (c0 : Nat) (l0 : List Int) (A1 : Option Addr) (c1 : Nat) (l1 : List Int) (r : List Int) (w : World) (hr0 : Kd.C (Kd.int .u32) w A0 l0.length l0) (hc0 : l0.length ≤ c0) (hr1 : Kd.C (Kd.int .u32) w A1 l1.length l1) (hc1 : l1.length ≤ c1) (h : bobbinref2_Add.f k l0 l1 = some r) :
  Calls Tryz.prog 106 #[.slice A0 l0.length c0, .slice A1 l1.length c1] w fun e w' => ∃ v0_ : Value, e = .returned (v0_) ∧ Kd.R (Kd.int .u32) 119 w' w.heap.size (fun _ => True) v0_ r ∧ Below w.heap.size w w' := by
 have HR0 := md_ hr0
 have HC0 := md_ hc0
 clear hr0 hc0
 have HR1 := md_ hr1
 have HC1 := md_ hc1
 clear hr1 hc1
 have HB := md_ (Below.refl w.heap.size w)
 have H : (bobbinref2_Add.l0 k l0 l1 ([] : List Int) 0 0) = some r := h
 clear h
 have H' := md_ H
 clear H
 go_enter Tryz.func106, Tryz.ntmps106
 go_wp2
 go_loopg [5, 6, 7] k (fun kq v5 v6 v7 w' => ∃ (x5_1 : List Int) (x6_1 : Int) (x7_1 : Int), v6 = .int .u64 x6_1 ∧ v7 = .int .i64 x7_1 ∧ Aside0 (bobbinref2_Add.l0 kq l0 l1 x5_1 x6_1 x7_1 = some r) ∧ Aside0 (kq ≤ k) ∧ Aside0 (Kd.R (Kd.int .u32) 119 w' w.heap.size (fun _ => True) v5 x5_1) ∧ Aside0 (Below w.heap.size w w'))
 case atStart => exact ⟨(([] : List Int)), (0), (0), aq_, aq_, H', ⟨Nat.le_refl _⟩, ⟨by first | exact Kd.R_nil _ _ _ _ _ | exact Kd.R_nil _ 119 _ 0 (fun _ => False) | exact Kd.R_nil _ 119 _ 0 _ | exact Kd.R_nil _ _ _ _ _ | exact Kd.N_nil _ _ _ _ _ | exact Kd.V_nil _ _ _ _ _ | exact Kd.Q_nil _ _ _ _ _ | exact Kd.S_nil _ _ _ _ _⟩, ⟨bq_ HB.out⟩⟩
 case round =>
  clear H'
  (try clear c1); (try clear c2); (try clear p2)
  obtain ⟨x5_1, x6_1, x7_1, rfl, rfl, HA, HK1, HO_5, HB⟩ := hrel
  cases gk with
  | zero => exact absurd HA.out (by simp [bobbinref2_Add.l0])
  | succ k1 =>
   have H := HA.out
   clear HA
   simp only [bobbinref2_Add.l0] at H
   have HC3 := md_ H
   clear H
   go_upto_region 4 with (fail)
   go_cut [17] (fun v17 wc => ∃ (kq : Nat) (x17_2 : Bool), v17 = .bool x17_2 ∧ Aside0 (bobbinref2_Add.j1 kq l0 l1 x5_1 x6_1 x7_1 x17_2 = some r) ∧ Aside0 (kq ≤ k1) ∧ Aside0 (Kd.R (Kd.int .u32) 119 wc w.heap.size (fun _ => True) u5 x5_1) ∧ Aside0 (Below w.heap.size w wc))
   case first =>
    have H := HC3.out
    clear HC3
    by_cases c4 : x7_1 < (l0.length : Int)
    ·rw [if_pos c4] at H
     have c4b0 := decide_eq_true c4
     clear c4
     (first | rw [c4b0] | (simp only [i64_w, i32_w]; rw [c4b0]) | rw [c4b1] | skip)
     have H' := md_ H
     clear H
     go_wp2
     go_meet
     case rel => exact ⟨_, (true), aq_, H', ⟨by have := HK1.out; first | omega | exact Nat.le_refl _⟩, ⟨rq_ HO_5.out⟩, ⟨bq_ HB.out⟩⟩
    ·rw [if_neg c4] at H
     have c4b0 := decide_eq_false c4
     clear c4
     (first | rw [c4b0] | (simp only [i64_w, i32_w]; rw [c4b0]) | rw [c4b1] | skip)
     have H' := md_ H
     clear H
     go_wp2
     go_meet
     case rel => exact ⟨_, (decide (x7_1 < (l1.length : Int))), aq_, H', ⟨by have := HK1.out; first | omega | exact Nat.le_refl _⟩, ⟨rq_ HO_5.out⟩, ⟨bq_ HB.out⟩⟩
   case rest =>
    clear HC3
    (try clear c1); (try clear c2); (try clear p2); (try clear c4); (try clear c4b0); (try clear c4b1); (try clear p2)
    obtain ⟨kq, x17_2, rfl, HA, HJ2, HO_5, HB⟩ := hcut
    cases kq with
    | zero => exact absurd HA.out (by simp [bobbinref2_Add.j1])
    | succ kj2 =>
     have H := HA.out
     clear HA
     simp only [bobbinref2_Add.j1] at H
     by_cases c5 : x17_2 = true
     ·subst c5
      rw [if_pos rfl] at H
      by_cases c6 : x7_1 < (l0.length : Int)
      ·rw [if_pos c6] at H
       have c6b0 := decide_eq_true c6
       clear c6
       obtain ⟨c7b0, H⟩ := od_ H
       by_cases c8 : x7_1 < (l1.length : Int)
       ·rw [if_pos c8] at H
        have c8b0 := decide_eq_true c8
        clear c8
        obtain ⟨c9, H⟩ := oi_ H
        have LMc9 := md_ c9
        clear c9
        obtain ⟨y445, hy445⟩ : ∃ y_ : List Int, y_ = (x5_1 ++ [(IntKind.u64.wrap ((IntKind.u64.wrap (x6_1 + (IntKind.u64.wrap (rd l0 x7_1)))) + (IntKind.u64.wrap (rd l1 x7_1)))) % 4294967296]) := ⟨_, rfl⟩
        replace H : (bobbinref2_Add.l0 kj2 l0 l1 y445 ((IntKind.u64.wrap ((IntKind.u64.wrap (x6_1 + (IntKind.u64.wrap (rd l0 x7_1)))) + (IntKind.u64.wrap (rd l1 x7_1)))) / 4294967296) (wrap64 (x7_1 + 1))) = some r := by first | (rw [hy445]; with_reducible exact H) | (have H2_ := (Option.bind_some _ _).symm.trans H; rw [hy445]; with_reducible exact H2_) | (have H2_ := (Option.bind_some _ _).symm.trans H; with_reducible exact H2_) | with_reducible exact H | (rw [hy445]; exact H) | exact H
        have Ny445 := md_ hy445
        clear hy445
        have H' := md_ H
        clear H
        have p443 : 0 ≤ (x7_1 : Int) := oq_
        have q443 : x7_1 < (l0.length : Int) := oq_
        obtain ⟨ad443, e443, hx443_0⟩ := Kd.at_int HR0.out x7_1 p443 q443
        cases e443
        replace hx443_0 := (HB.out.cell (World.block_lt_of_cell? w _ hx443_0)).trans hx443_0
        replace p443 := eq_true p443
        replace q443 := eq_true q443
        have p444 : 0 ≤ (x7_1 : Int) := oq_
        have q444 : x7_1 < (l1.length : Int) := oq_
        obtain ⟨ad444, e444, hx444_0⟩ := Kd.at_int HR1.out x7_1 p444 q444
        cases e444
        replace hx444_0 := (HB.out.cell (World.block_lt_of_cell? w _ hx444_0)).trans hx444_0
        replace p444 := eq_true p444
        replace q444 := eq_true q444
        go_wp2_with (first | ((with_reducible refine gate_builtin (b := .append) (xs := #[.tmp 42, .tmp 45]) rfl ?_); (try (refine gate_guard (by rfl) ?_; dsimp only)); at_builtin; refine Kd.R_append (Kd.int .u32) (w0 := w) w.heap.size rfl (.tmp 42) (.tmp 45) 96 119 (.int .u32 0) 4 rfl Tryz.underlying96 info119 rfl (by decide) (by omega) u5 x5_1 ((IntKind.u64.wrap ((IntKind.u64.wrap (x6_1 + (IntKind.u64.wrap (rd l0 x7_1)))) + (IntKind.u64.wrap (rd l1 x7_1)))) % 4294967296) [.int .u32 ((IntKind.u64.wrap ((IntKind.u64.wrap (x6_1 + (IntKind.u64.wrap (rd l0 x7_1)))) + (IntKind.u64.wrap (rd l1 x7_1)))) % 4294967296)] (fun _ => True) (fun _ => False) rfl rfl ?aP (fun _ hk => hk.elim) ?aF ?aO ?aB ?aS ?aL ?_; (case aP => exact rfl); (case aB => exact (bq_ HB.out)); (case aF => exact (fun _ _ => trivial)); (case aO => exact (rq_ HO_5.out)); (case aS => exact (below_size (bq_ HB.out))); (case aL => have := LMc9.out; omega); intro v446 w10 ho hb hg hat; rw [← Ny445.out] at ho; replace HB := md_ (hb); have HO447 := md_ (ho); clear HO_5; clear ho hb hg hat))
        go_roundg kj2
        case measure => have := HK1.out; have := HJ2.out; omega
        case rel => exact ⟨(y445), ((IntKind.u64.wrap ((IntKind.u64.wrap (x6_1 + (IntKind.u64.wrap (rd l0 x7_1)))) + (IntKind.u64.wrap (rd l1 x7_1)))) / 4294967296), (wrap64 (x7_1 + 1)), aq_, aq_, H', ⟨by have := HK1.out; have := HJ2.out; omega⟩, ⟨rq_ HO447.out⟩, ⟨bq_ HB.out⟩⟩
       ·rw [if_neg c8] at H
        have c8b0 := decide_eq_false c8
        clear c8
        obtain ⟨c11, H⟩ := oi_ H
        have LMc11 := md_ c11
        clear c11
        obtain ⟨y448, hy448⟩ : ∃ y_ : List Int, y_ = (x5_1 ++ [(IntKind.u64.wrap (x6_1 + (IntKind.u64.wrap (rd l0 x7_1)))) % 4294967296]) := ⟨_, rfl⟩
        replace H : (bobbinref2_Add.l0 kj2 l0 l1 y448 ((IntKind.u64.wrap (x6_1 + (IntKind.u64.wrap (rd l0 x7_1)))) / 4294967296) (wrap64 (x7_1 + 1))) = some r := by first | (rw [hy448]; with_reducible exact H) | (have H2_ := (Option.bind_some _ _).symm.trans H; rw [hy448]; with_reducible exact H2_) | (have H2_ := (Option.bind_some _ _).symm.trans H; with_reducible exact H2_) | with_reducible exact H | (rw [hy448]; exact H) | exact H
        have Ny448 := md_ hy448
        clear hy448
        have H' := md_ H
        clear H
        have p443 : 0 ≤ (x7_1 : Int) := oq_
        have q443 : x7_1 < (l0.length : Int) := oq_
        obtain ⟨ad443, e443, hx443_0⟩ := Kd.at_int HR0.out x7_1 p443 q443
        cases e443
        replace hx443_0 := (HB.out.cell (World.block_lt_of_cell? w _ hx443_0)).trans hx443_0
        replace p443 := eq_true p443
        replace q443 := eq_true q443
        go_wp2_with (first | ((with_reducible refine gate_builtin (b := .append) (xs := #[.tmp 42, .tmp 45]) rfl ?_); (try (refine gate_guard (by rfl) ?_; dsimp only)); at_builtin; refine Kd.R_append (Kd.int .u32) (w0 := w) w.heap.size rfl (.tmp 42) (.tmp 45) 96 119 (.int .u32 0) 4 rfl Tryz.underlying96 info119 rfl (by decide) (by omega) u5 x5_1 ((IntKind.u64.wrap (x6_1 + (IntKind.u64.wrap (rd l0 x7_1)))) % 4294967296) [.int .u32 ((IntKind.u64.wrap (x6_1 + (IntKind.u64.wrap (rd l0 x7_1)))) % 4294967296)] (fun _ => True) (fun _ => False) rfl rfl ?aP (fun _ hk => hk.elim) ?aF ?aO ?aB ?aS ?aL ?_; (case aP => exact rfl); (case aB => exact (bq_ HB.out)); (case aF => exact (fun _ _ => trivial)); (case aO => exact (rq_ HO_5.out)); (case aS => exact (below_size (bq_ HB.out))); (case aL => have := LMc11.out; omega); intro v449 w12 ho hb hg hat; rw [← Ny448.out] at ho; replace HB := md_ (hb); have HO450 := md_ (ho); clear HO_5; clear ho hb hg hat))
        go_roundg kj2
        case measure => have := HK1.out; have := HJ2.out; omega
        case rel => exact ⟨(y448), ((IntKind.u64.wrap (x6_1 + (IntKind.u64.wrap (rd l0 x7_1)))) / 4294967296), (wrap64 (x7_1 + 1)), aq_, aq_, H', ⟨by have := HK1.out; have := HJ2.out; omega⟩, ⟨rq_ HO450.out⟩, ⟨bq_ HB.out⟩⟩
      ·rw [if_neg c6] at H
       have c6b0 := decide_eq_false c6
       clear c6
       by_cases c13 : x7_1 < (l1.length : Int)
       ·rw [if_pos c13] at H
        have c13b0 := decide_eq_true c13
        clear c13
        obtain ⟨c14b0, H⟩ := od_ H
        obtain ⟨c15, H⟩ := oi_ H
        have LMc15 := md_ c15
        clear c15
        obtain ⟨y452, hy452⟩ : ∃ y_ : List Int, y_ = (x5_1 ++ [(IntKind.u64.wrap (x6_1 + (IntKind.u64.wrap (rd l1 x7_1)))) % 4294967296]) := ⟨_, rfl⟩
        replace H : (bobbinref2_Add.l0 kj2 l0 l1 y452 ((IntKind.u64.wrap (x6_1 + (IntKind.u64.wrap (rd l1 x7_1)))) / 4294967296) (wrap64 (x7_1 + 1))) = some r := by first | (rw [hy452]; with_reducible exact H) | (have H2_ := (Option.bind_some _ _).symm.trans H; rw [hy452]; with_reducible exact H2_) | (have H2_ := (Option.bind_some _ _).symm.trans H; with_reducible exact H2_) | with_reducible exact H | (rw [hy452]; exact H) | exact H
        have Ny452 := md_ hy452
        clear hy452
        have H' := md_ H
        clear H
        have p451 : 0 ≤ (x7_1 : Int) := oq_
        have q451 : x7_1 < (l1.length : Int) := oq_
        obtain ⟨ad451, e451, hx451_0⟩ := Kd.at_int HR1.out x7_1 p451 q451
        cases e451
        replace hx451_0 := (HB.out.cell (World.block_lt_of_cell? w _ hx451_0)).trans hx451_0
        replace p451 := eq_true p451
        replace q451 := eq_true q451
        go_wp2_with (first | ((with_reducible refine gate_builtin (b := .append) (xs := #[.tmp 42, .tmp 45]) rfl ?_); (try (refine gate_guard (by rfl) ?_; dsimp only)); at_builtin; refine Kd.R_append (Kd.int .u32) (w0 := w) w.heap.size rfl (.tmp 42) (.tmp 45) 96 119 (.int .u32 0) 4 rfl Tryz.underlying96 info119 rfl (by decide) (by omega) u5 x5_1 ((IntKind.u64.wrap (x6_1 + (IntKind.u64.wrap (rd l1 x7_1)))) % 4294967296) [.int .u32 ((IntKind.u64.wrap (x6_1 + (IntKind.u64.wrap (rd l1 x7_1)))) % 4294967296)] (fun _ => True) (fun _ => False) rfl rfl ?aP (fun _ hk => hk.elim) ?aF ?aO ?aB ?aS ?aL ?_; (case aP => exact rfl); (case aB => exact (bq_ HB.out)); (case aF => exact (fun _ _ => trivial)); (case aO => exact (rq_ HO_5.out)); (case aS => exact (below_size (bq_ HB.out))); (case aL => have := LMc15.out; omega); intro v453 w16 ho hb hg hat; rw [← Ny452.out] at ho; replace HB := md_ (hb); have HO454 := md_ (ho); clear HO_5; clear ho hb hg hat))
        go_roundg kj2
        case measure => have := HK1.out; have := HJ2.out; omega
        case rel => exact ⟨(y452), ((IntKind.u64.wrap (x6_1 + (IntKind.u64.wrap (rd l1 x7_1)))) / 4294967296), (wrap64 (x7_1 + 1)), aq_, aq_, H', ⟨by have := HK1.out; have := HJ2.out; omega⟩, ⟨rq_ HO454.out⟩, ⟨bq_ HB.out⟩⟩
       ·rw [if_neg c13] at H
        have c13b0 := decide_eq_false c13
        clear c13
        obtain ⟨c17, H⟩ := oi_ H
        have LMc17 := md_ c17
        clear c17
        obtain ⟨y455, hy455⟩ : ∃ y_ : List Int, y_ = (x5_1 ++ [(x6_1) % 4294967296]) := ⟨_, rfl⟩
        replace H : (bobbinref2_Add.l0 kj2 l0 l1 y455 (x6_1 / 4294967296) (wrap64 (x7_1 + 1))) = some r := by first | (rw [hy455]; with_reducible exact H) | (have H2_ := (Option.bind_some _ _).symm.trans H; rw [hy455]; with_reducible exact H2_) | (have H2_ := (Option.bind_some _ _).symm.trans H; with_reducible exact H2_) | with_reducible exact H | (rw [hy455]; exact H) | exact H
        have Ny455 := md_ hy455
        clear hy455
        have H' := md_ H
        clear H
        go_wp2_with (first | ((with_reducible refine gate_builtin (b := .append) (xs := #[.tmp 42, .tmp 45]) rfl ?_); (try (refine gate_guard (by rfl) ?_; dsimp only)); at_builtin; refine Kd.R_append (Kd.int .u32) (w0 := w) w.heap.size rfl (.tmp 42) (.tmp 45) 96 119 (.int .u32 0) 4 rfl Tryz.underlying96 info119 rfl (by decide) (by omega) u5 x5_1 ((x6_1) % 4294967296) [.int .u32 ((x6_1) % 4294967296)] (fun _ => True) (fun _ => False) rfl rfl ?aP (fun _ hk => hk.elim) ?aF ?aO ?aB ?aS ?aL ?_; (case aP => exact rfl); (case aB => exact (bq_ HB.out)); (case aF => exact (fun _ _ => trivial)); (case aO => exact (rq_ HO_5.out)); (case aS => exact (below_size (bq_ HB.out))); (case aL => have := LMc17.out; omega); intro v456 w18 ho hb hg hat; rw [← Ny455.out] at ho; replace HB := md_ (hb); have HO457 := md_ (ho); clear HO_5; clear ho hb hg hat))
        go_roundg kj2
        case measure => have := HK1.out; have := HJ2.out; omega
        case rel => exact ⟨(y455), (x6_1 / 4294967296), (wrap64 (x7_1 + 1)), aq_, aq_, H', ⟨by have := HK1.out; have := HJ2.out; omega⟩, ⟨rq_ HO457.out⟩, ⟨bq_ HB.out⟩⟩
     ·replace c5 := Bool.eq_false_iff.mpr c5
      subst c5
      rw [if_neg (show ¬ (false = true) by decide)] at H
      obtain ⟨c19, H⟩ := oi_ H
      have LMc19 := md_ c19
      clear c19
      obtain ⟨y437, hy437⟩ : ∃ y_ : List Int, y_ = (x5_1 ++ [(x6_1) % 4294967296]) := ⟨_, rfl⟩
      replace H : ((bobbinref2_Norm.f kj2 y437).bind fun t440 => (some t440)) = some r := by first | (rw [hy437]; with_reducible exact H) | (have H2_ := (Option.bind_some _ _).symm.trans H; rw [hy437]; with_reducible exact H2_) | (have H2_ := (Option.bind_some _ _).symm.trans H; with_reducible exact H2_) | with_reducible exact H | (rw [hy437]; exact H) | exact H
      have Ny437 := md_ hy437
      clear hy437
      replace H := Option.bind_eq_some_iff.mp H
      obtain ⟨t440, A200, H⟩ := H
      have A20 := md_ A200
      clear A200
      obtain rfl := Option.some.inj H
      go_wp2_with (first | ((with_reducible refine gate_builtin (b := .append) (xs := #[.tmp 49, .tmp 52]) rfl ?_); (try (refine gate_guard (by rfl) ?_; dsimp only)); at_builtin; refine Kd.R_append (Kd.int .u32) (w0 := w) w.heap.size rfl (.tmp 49) (.tmp 52) 96 119 (.int .u32 0) 4 rfl Tryz.underlying96 info119 rfl (by decide) (by omega) u5 x5_1 ((x6_1) % 4294967296) [.int .u32 ((x6_1) % 4294967296)] (fun _ => True) (fun _ => False) rfl rfl ?aP (fun _ hk => hk.elim) ?aF ?aO ?aB ?aS ?aL ?_; (case aP => exact rfl); (case aB => exact (bq_ HB.out)); (case aF => exact (fun _ _ => trivial)); (case aO => exact (rq_ HO_5.out)); (case aS => exact (below_size (bq_ HB.out))); (case aL => have := LMc19.out; omega); intro v438 w21 ho hb hg hat; rw [← Ny437.out] at ho; replace HB := md_ (hb); have HO439 := md_ (ho); clear HO_5; clear ho hb hg hat; obtain ⟨Ao22, co22, eo22⟩ := Kd.R_slice HO439.out; subst eo22) | ((with_reducible refine gate_callee (f := 77) rfl ?_); refine goesL_ (some 54) rfl rfl Tryz.func77 (by kernel_rfl) rfl #[.slice Ao22 y437.length co22] rfl gq_ ?_; (with_reducible refine (bobbinref2_Norm.calls kj2 _ _ y437 t440 _ ?side1 ?side2 A20.out).mono ?_); (case side1 => repeat (first | exact (Kd.R_reads' HO439.out).2.2 | (with_reducible refine Kd.C_alloc ?_ _) | (with_reducible refine Kd.C_drewN ?_ _) | (with_reducible refine Kd.C_drew ?_))); (case side2 => exact (Kd.R_reads' HO439.out).2.1); rintro e w23 ⟨v441, rfl, ho0, hb⟩; refine ⟨_, rfl, ?_⟩; have n0_ := md_ (Kd.R_elder' (rq_ HO439.out) (Kd.R_base ho0) hb); have n1_ := md_ (Kd.R_lower (Kd.R_new' ho0 (Kd.R_lt (rq_ HO439.out))) (below_size (bq_ HB.out))); have n2_ := md_ (below_step (bq_ HB.out) hb); clear HO439; clear HB; have HO439 := n0_; have HO442 := n1_; have HB := n2_; clear n0_ n1_ n2_; (try clear hb); (try clear hb2); (try clear hk); (try clear hi); (try clear ho0)))
      go_ret
      exact ⟨_, ew_, by (with_reducible repeat (first | apply Kd.R_alloc | apply Kd.R_drewN | apply Kd.R_drew)); exact Kd.R_mono HO442.out (fun _ hk => trivial), bq_ HB.out⟩
def bobbinref2_Bits.l0 : Nat → Int → Int → Option (Int)
 | 0, _, _ => none
 | k + 1, x3, x4 => if x4 > 0 then (bobbinref2_Bits.l0 k (wrap64 (x3 + 1)) (x4 / 2)) else (some x3)
def bobbinref2_Bits.f (k : Nat) (l0 : List Int) : Option (Int) := (bobbinref2_trimmed.f k l0).bind fun t463 => (if (t463.length : Int) = 0 then (some 0) else (if 0 ≤ (wrap64 ((t463.length : Int) - 1)) then (if (wrap64 ((t463.length : Int) - 1)) < (t463.length : Int) then (bobbinref2_Bits.l0 k (wrap64 (32 * (wrap64 ((t463.length : Int) - 1)))) (rd t463 (wrap64 ((t463.length : Int) - 1)))) else (none)) else (none)))
set_option maxRecDepth 100000 in
theorem bobbinref2_Bits.calls (k : Nat) (A0 : Option Addr) (c0 : Nat) (l0 : List Int) (r : Int) (w : World) (hr0 : Kd.C (Kd.int .u32) w A0 l0.length l0) (hc0 : l0.length ≤ c0) (h : bobbinref2_Bits.f k l0 = some r) :
  Calls Tryz.prog 74 #[.slice A0 l0.length c0] w fun e w' => e = .returned (.int .i64 r) ∧ Below w.heap.size w w' := by
 have HR0 := md_ hr0
 have HC0 := md_ hc0
 clear hr0 hc0
 have HB := md_ (Below.refl w.heap.size w)
 have H : ((bobbinref2_trimmed.f k l0).bind fun t463 => (if (t463.length : Int) = 0 then (some 0) else (if 0 ≤ (wrap64 ((t463.length : Int) - 1)) then (if (wrap64 ((t463.length : Int) - 1)) < (t463.length : Int) then (bobbinref2_Bits.l0 k (wrap64 (32 * (wrap64 ((t463.length : Int) - 1)))) (rd t463 (wrap64 ((t463.length : Int) - 1)))) else (none)) else (none)))) = some r := h
 clear h
 replace H := Option.bind_eq_some_iff.mp H
 obtain ⟨t463, A20, H⟩ := H
 have A2 := md_ A20
 clear A20
 by_cases c3 : (t463.length : Int) = 0
 ·rw [if_pos c3] at H
  have c3b0 : ((t463.length : Int) == 0) = true := beq_iff_eq.mpr c3
  have c3b1 : ((t463.length : Int) != 0) = false := bne_eq_false_iff_eq.mpr c3
  clear c3
  obtain rfl := Option.some.inj H
  go_enter Tryz.func74, Tryz.ntmps74
  go_wp2_with (first | ((with_reducible refine gate_callee (f := 78) rfl ?_); refine goesL_ (some 6) rfl rfl Tryz.func78 (by kernel_rfl) rfl #[.slice A0 l0.length c0] rfl gq_ ?_; (with_reducible refine (bobbinref2_trimmed.calls k (fun k_ => k_ < w.heap.size) _ _ l0 t463 _ ?side1 A2.out).mono ?_); (case side1 => exact Kd.V_mk HC0.out (Kd.F_below (Kd.C_F (Kd.heap_int .u32) HR0.out) (bq_ HB.out))); rintro e w4 ⟨v464, rfl, ho0, hb⟩; refine ⟨_, rfl, ?_⟩; have HO465 := md_ (Kd.V_lower (Kd.V_mono (ok' := fun k_ => True) ho0 (fun k_ hk_ => trivial)) (below_size (bq_ HB.out))); replace HB := bb_ HB hb; (try clear hb); (try clear hb2); (try clear hk); (try clear hi); (try clear ho0); obtain ⟨Ao5, co5, eo5⟩ := Kd.V_slice HO465.out; subst eo5))
  go_ret
  exact ⟨ew_, bq_ HB.out⟩
 ·rw [if_neg c3] at H
  have c3b0 : ((t463.length : Int) == 0) = false := beq_eq_false_iff_ne.mpr c3
  have c3b1 : ((t463.length : Int) != 0) = true := bne_iff_ne.mpr c3
  have c3b2 : ¬ (t463 = []) := fun h_ => c3 (by rw [h_]; rfl)
  obtain ⟨ji6, hji6⟩ : ∃ j_ : Int, (wrap64 ((t463.length : Int) - 1)) = j_ := ⟨_, rfl⟩
  first | rw [hji6] at H | simp only [hji6] at H
  (try rw [hji6] at A2)
  have hji6w : (IntKind.i64.wrap ((t463.length : Int) - 1)) = ji6 := (i64_w _).trans hji6
  obtain ⟨c7b0, H⟩ := od_ H
  obtain ⟨c8b0, H⟩ := od_ H
  have H' := md_ H
  clear H
  go_enter Tryz.func74, Tryz.ntmps74
  go_wp2_with (first | ((with_reducible refine gate_callee (f := 78) rfl ?_); refine goesL_ (some 6) rfl rfl Tryz.func78 (by kernel_rfl) rfl #[.slice A0 l0.length c0] rfl gq_ ?_; (with_reducible refine (bobbinref2_trimmed.calls k (fun k_ => k_ < w.heap.size) _ _ l0 t463 _ ?side1 A2.out).mono ?_); (case side1 => exact Kd.V_mk HC0.out (Kd.F_below (Kd.C_F (Kd.heap_int .u32) HR0.out) (bq_ HB.out))); rintro e w9 ⟨v464, rfl, ho0, hb⟩; refine ⟨_, rfl, ?_⟩; have HO465 := md_ (Kd.V_lower (Kd.V_mono (ok' := fun k_ => True) ho0 (fun k_ hk_ => trivial)) (below_size (bq_ HB.out))); replace HB := bb_ HB hb; (try clear hb); (try clear hb2); (try clear hk); (try clear hi); (try clear ho0); obtain ⟨Ao10, co10, eo10⟩ := Kd.V_slice HO465.out; subst eo10; have p466 : 0 ≤ ((ji6) : Int) := oq_; have q466 : (ji6) < (t463.length : Int) := oq_; obtain ⟨ad466, e466, hx466_0⟩ := Kd.at_int (Kd.V_reads' HO465.out).2.2 (ji6) p466 q466; cases e466; replace p466 := eq_true p466; replace q466 := eq_true q466))
  go_loopg [3, 4] k (fun kq v3 v4 w' => ∃ (x3_1 : Int) (x4_1 : Int), v3 = .int .i64 x3_1 ∧ v4 = .int .u32 x4_1 ∧ Aside0 (bobbinref2_Bits.l0 kq x3_1 x4_1 = some r) ∧ Aside0 (kq ≤ k) ∧ Aside0 (Below w.heap.size w w'))
  case atStart => exact ⟨(wrap64 (32 * (ji6))), (rd t463 (ji6)), (by first | rfl | (simp; done) | (simp only [← hji6] <;> (first | rfl | simp)) | (simp [*]; done)), (by first | rfl | (simp; done) | (simp only [← hji6] <;> (first | rfl | simp)) | (simp [*]; done)), H', ⟨Nat.le_refl _⟩, ⟨bq_ HB.out⟩⟩
  case round =>
   clear H'
   (try clear p2); (try clear c3); (try clear c3b0); (try clear c3b1); (try clear c3b2); (try clear c4); (try clear p4); (try clear q4); (try clear hx4); (try clear p6); (try clear c7); (try clear c7b0); (try clear c8); (try clear c8b0); (try clear hx466_0); (try clear p466); (try clear q466)
   obtain ⟨x3_1, x4_1, rfl, rfl, HA, HK1, HB⟩ := hrel
   cases gk with
   | zero => exact absurd HA.out (by simp [bobbinref2_Bits.l0])
   | succ k1 =>
    have H := HA.out
    clear HA
    simp only [bobbinref2_Bits.l0] at H
    by_cases c11 : x4_1 > 0
    ·rw [if_pos c11] at H
     have c11b0 : decide (0 < x4_1) = true := decide_eq_true c11
     clear c11
     have H' := md_ H
     clear H
     go_wp2
     go_roundg k1
     case measure => have := HK1.out; omega
     case rel => exact ⟨(wrap64 (x3_1 + 1)), (x4_1 / 2), aq_, aq_, H', ⟨by have := HK1.out; omega⟩, ⟨bq_ HB.out⟩⟩
    ·rw [if_neg c11] at H
     have c11b0 : decide (0 < x4_1) = false := decide_eq_false c11
     clear c11
     obtain rfl := Option.some.inj H
     go_wp2
     go_ret
     exact ⟨by first | rfl | (simp [errW_none, errW_some] <;> rfl) | (simp only [← hji6]; first | rfl | (simp [errW_none, errW_some] <;> rfl)) | (simp [*, errW_none, errW_some] <;> rfl), bq_ HB.out⟩
end Go.Proofs.YtneepokiioefgaaGreatDoor.PNat
set_option maxHeartbeats 32000000
namespace Go.Proofs.YtneepokiioefgaaGreatDoor.PNat
open Go.RowKit YtneepokiioefgaaGreatDoorW.PrintWords YtneepokiioefgaaGreatDoorW.PrintLast YtneepokiioefgaaGreatDoorW.PrintMore
attribute [local go_sem] max2_int min2_int max_two min_two max_three min_three max_four min_four
end Go.Proofs.YtneepokiioefgaaGreatDoor.PNat
namespace Go.Proofs.YtneepokiioefgaaGreatDoor.PNatO
open Go.RowKit YtneepokiioefgaaGreatDoorW.PrintWords YtneepokiioefgaaGreatDoorW.PrintLast YtneepokiioefgaaGreatDoorW.PrintMore
attribute [local go_sem] max2_int min2_int max_two min_two max_three min_three max_four min_four
theorem ow_C_len {α : Type} {d : Kd α} {w : World} {A : Option Addr} {n m : Nat} {xs : List α} (h : n = m) (hc : d.C w A n xs) : d.C w A m xs := h ▸ hc
def bobbinref2_trimmed.l0 : Nat → List Int → Int → Option (List Int)
 | 0, _, _ => none
 | k + 1, x0, x3 => if x3 > 0 then (if 0 ≤ (wrap64 (x3 - 1)) then (if (wrap64 (x3 - 1)) < (x0.length : Int) then (if (rd x0 (wrap64 (x3 - 1))) = 0 then (bobbinref2_trimmed.l0 k x0 (wrap64 (x3 - 1))) else (if 0 ≤ x3 then (if x3 ≤ (x0.length : Int) then (some (x0.take (x3 : Int).toNat)) else (none)) else (none))) else (none)) else (none)) else (if 0 ≤ x3 then (if x3 ≤ (x0.length : Int) then (some (x0.take (x3 : Int).toNat)) else (none)) else (none))
def bobbinref2_trimmed.f (k : Nat) (l0 : List Int) : Option (List Int) := bobbinref2_trimmed.l0 k l0 (l0.length : Int)
set_option maxRecDepth 100000 in
theorem bobbinref2_trimmed.calls (k : Nat) (P0_ : Nat → Prop) (u9000_ : Value) (l0 : List Int) (r : List Int) (w0 w : World) (hB : Below w0.heap.size w0 w) (ho0 : Kd.R (Kd.int .u32) 119 w w0.heap.size P0_ u9000_ l0) (h : bobbinref2_trimmed.f k l0 = some r) :
  Calls Tryz.prog 78 #[u9000_] w fun e w' => ∃ v0_ : Value, e = .returned (v0_) ∧ Kd.R (Kd.int .u32) 119 w' w0.heap.size (fun k_ => (P0_ k_ ∨ w.heap.size ≤ k_)) v0_ r ∧ Below w0.heap.size w0 w' ∧ Kept w w' (fun k_ => P0_ k_) := by
 have HO0 := md_ (show Kd.R (Kd.int .u32) 119 w w0.heap.size (fun k_ => (P0_ k_ ∨ w.heap.size ≤ k_)) u9000_ l0 from Kd.R_mono ho0 (fun k_ hk => (.inl hk)))
 have HK := md_ (Kept.refl w (fun k_ => P0_ k_))
 have HW0 := md_ hB.size
 have HB := md_ hB
 clear hB
 have H : (bobbinref2_trimmed.l0 k l0 (l0.length : Int)) = some r := h
 clear h
 have H' := md_ H
 clear H
 obtain ⟨Ao2, co2, eo2⟩ := Kd.R_slice HO0.out
 subst eo2
 go_enter Tryz.func78, Tryz.ntmps78
 go_wp2
 go_loopg [3] k (fun kq v3 w' => ∃ (x3_1 : Int), v3 = .int .i64 x3_1 ∧ Aside0 (bobbinref2_trimmed.l0 kq l0 x3_1 = some r) ∧ Aside0 (kq ≤ k) ∧ Aside0 (Kd.R (Kd.int .u32) 119 w' w0.heap.size (fun k_ => (P0_ k_ ∨ w.heap.size ≤ k_)) (.slice Ao2 l0.length co2) l0) ∧ Aside0 (Kept w w' (fun k_ => P0_ k_)) ∧ Aside0 (Below w0.heap.size w0 w'))
 case atStart => exact ⟨((l0.length : Int)), aq_, H', ⟨Nat.le_refl _⟩, ⟨rq_ HO0.out⟩, ⟨by repeat (first | (with_reducible first | exact HK.out | apply Kept.alloc | apply Kept.drewN | apply Kept.drew) | exact HK.out)⟩, ⟨bq_ HB.out⟩⟩
 case round =>
  clear H'
  (try clear p2)
  obtain ⟨x3_1, rfl, HA, HK1, HO_0, HK, HB⟩ := hrel
  cases gk with
  | zero => exact absurd HA.out (by simp [bobbinref2_trimmed.l0])
  | succ k1 =>
   have H := HA.out
   clear HA
   simp only [bobbinref2_trimmed.l0] at H
   by_cases c3 : x3_1 > 0
   ·rw [if_pos c3] at H
    have c3b0 : decide (0 < x3_1) = true := decide_eq_true c3
    clear c3
    obtain ⟨ji4, hji4⟩ : ∃ j_ : Int, (wrap64 (x3_1 - 1)) = j_ := ⟨_, rfl⟩
    first | rw [hji4] at H | simp only [hji4] at H
    have hji4w : (IntKind.i64.wrap (x3_1 - 1)) = ji4 := (i64_w _).trans hji4
    obtain ⟨c5b0, H⟩ := od_ H
    obtain ⟨c6b0, H⟩ := od_ H
    by_cases c7 : (rd l0 (ji4)) = 0
    ·rw [if_pos c7] at H
     have c7b0 : ((rd l0 (ji4)) == 0) = true := beq_iff_eq.mpr c7
     have c7b1 : ((rd l0 (ji4)) != 0) = false := bne_eq_false_iff_eq.mpr c7
     clear c7
     have H' := md_ H
     clear H
     have p110 : 0 ≤ ((ji4) : Int) := oq_
     have q110 : (ji4) < (l0.length : Int) := oq_
     obtain ⟨ad110, e110, hx110_0⟩ := Kd.at_int (Kd.R_reads' HO_0.out).2.2 (ji4) p110 q110
     cases e110
     replace p110 := eq_true p110
     replace q110 := eq_true q110
     go_wp2
     go_roundg k1
     case measure => have := HK1.out; omega
     case rel => exact ⟨(ji4), (by first | rfl | (simp; done) | (simp only [← hji4] <;> (first | rfl | simp)) | (simp [*]; done)), H', ⟨by have := HK1.out; omega⟩, ⟨rq_ HO_0.out⟩, ⟨by repeat (first | (with_reducible first | exact HK.out | apply Kept.alloc | apply Kept.drewN | apply Kept.drew) | exact HK.out)⟩, ⟨bq_ HB.out⟩⟩
    ·rw [if_neg c7] at H
     have c7b0 : ((rd l0 (ji4)) == 0) = false := beq_eq_false_iff_ne.mpr c7
     have c7b1 : ((rd l0 (ji4)) != 0) = true := bne_iff_ne.mpr c7
     obtain ⟨c8, H⟩ := oi_ H
     have c8b0 := eq_true c8
     have c8b1 : decide (0 ≤ x3_1) = true := decide_eq_true c8
     clear c8
     obtain ⟨c9, H⟩ := oi_ H
     have c9b0 := eq_true c9
     have c9b1 : decide (x3_1 ≤ (l0.length : Int)) = true := decide_eq_true c9
     clear c9
     obtain ⟨y111, hy111⟩ : ∃ y_ : List Int, y_ = (l0.take (x3_1 : Int).toNat) := ⟨_, rfl⟩
     replace H : (some y111) = some r := by first | (rw [hy111]; with_reducible exact H) | (have H2_ := (Option.bind_some _ _).symm.trans H; rw [hy111]; with_reducible exact H2_) | (have H2_ := (Option.bind_some _ _).symm.trans H; with_reducible exact H2_) | with_reducible exact H | (rw [hy111]; exact H) | exact H
     have Ny111 := md_ hy111
     clear hy111
     obtain rfl := Option.some.inj H
     have p110 : 0 ≤ ((ji4) : Int) := oq_
     have q110 : (ji4) < (l0.length : Int) := oq_
     obtain ⟨ad110, e110, hx110_0⟩ := Kd.at_int (Kd.R_reads' HO_0.out).2.2 (ji4) p110 q110
     cases e110
     replace p110 := eq_true p110
     replace q110 := eq_true q110
     have q10 : (x3_1 : Int) ≤ ((l0.length : Int) : Int) := oq_
     obtain ⟨i010, hi010, _, hsz10, _⟩ := info_parts info119
     have hcut10 := cut_to (P := Tryz.prog) 96 119 .i64 Tryz.underlying96 hi010 (some ad110) l0.length co2 x3_1 oq_ q10 (Kd.R_reads' HO_0.out).2.1
     have hr10 := Kd.R_take (m := (x3_1 : Int).toNat) HO_0.out (by omega)
     have hy10 : y111.length = (x3_1 : Int).toNat := (by rw [Ny111.out, List.length_take]; omega)
     rw [← Ny111.out] at hr10
     rw [← hy10] at hr10 hcut10
     clear hy10 hi010 hsz10 HO_0
     have HO113 := md_ hr10
     clear hr10
     replace q10 := eq_true q10
     go_wp2
     go_ret
     exact ⟨_, by first | rfl | (simp [errW_none, errW_some] <;> rfl) | (simp only [← hji4]; first | rfl | (simp [errW_none, errW_some] <;> rfl)) | (simp [*, errW_none, errW_some] <;> rfl), rq_ HO113.out, bq_ HB.out, by repeat (first | (with_reducible first | exact HK.out | apply Kept.alloc | apply Kept.drewN | apply Kept.drew) | exact HK.out)⟩
   ·rw [if_neg c3] at H
    have c3b0 : decide (0 < x3_1) = false := decide_eq_false c3
    clear c3
    obtain ⟨c11, H⟩ := oi_ H
    have c11b0 := eq_true c11
    have c11b1 : decide (0 ≤ x3_1) = true := decide_eq_true c11
    clear c11
    obtain ⟨c12, H⟩ := oi_ H
    have c12b0 := eq_true c12
    have c12b1 : decide (x3_1 ≤ (l0.length : Int)) = true := decide_eq_true c12
    clear c12
    obtain ⟨y114, hy114⟩ : ∃ y_ : List Int, y_ = (l0.take (x3_1 : Int).toNat) := ⟨_, rfl⟩
    replace H : (some y114) = some r := by first | (rw [hy114]; with_reducible exact H) | (have H2_ := (Option.bind_some _ _).symm.trans H; rw [hy114]; with_reducible exact H2_) | (have H2_ := (Option.bind_some _ _).symm.trans H; with_reducible exact H2_) | with_reducible exact H | (rw [hy114]; exact H) | exact H
    have Ny114 := md_ hy114
    clear hy114
    obtain rfl := Option.some.inj H
    have q13 : (x3_1 : Int) ≤ ((l0.length : Int) : Int) := oq_
    obtain ⟨i013, hi013, _, hsz13, _⟩ := info_parts info119
    have hcut13 := cut_to (P := Tryz.prog) 96 119 .i64 Tryz.underlying96 hi013 Ao2 l0.length co2 x3_1 oq_ q13 (Kd.R_reads' HO_0.out).2.1
    have hr13 := Kd.R_take (m := (x3_1 : Int).toNat) HO_0.out (by omega)
    have hy13 : y114.length = (x3_1 : Int).toNat := (by rw [Ny114.out, List.length_take]; omega)
    rw [← Ny114.out] at hr13
    rw [← hy13] at hr13 hcut13
    clear hy13 hi013 hsz13 HO_0
    have HO116 := md_ hr13
    clear hr13
    replace q13 := eq_true q13
    go_wp2
    go_ret
    exact ⟨_, ew_, rq_ HO116.out, bq_ HB.out, by repeat (first | (with_reducible first | exact HK.out | apply Kept.alloc | apply Kept.drewN | apply Kept.drew) | exact HK.out)⟩
mutual
def bobbinref2_Text.l0 : Nat → List Int → List Int → Option (ByteArray)
 | 0, _, _ => none
 | k + 1, x3, x4 => if (x3.length : Int) > 0 then (bobbinref2_Text.l1 k x3 x4 0 (wrap64 ((x3.length : Int) - 1))) else (bobbinref2_Text.l3 k x4 (x4.length : Int))
def bobbinref2_Text.l1 : Nat → List Int → List Int → Int → Int → Option (ByteArray)
 | 0, _, _, _, _ => none
 | k + 1, x3, x4, x5, x6 => if x6 ≥ 0 then (if 0 ≤ x6 then (if x6 < (x3.length : Int) then (bobbinref2_Text.l1 k (x3.set (x6 : Int).toNat ((IntKind.u64.wrap (Int.tdiv (Go.bits .or .u64 (IntKind.u64.wrap (x5 * 4294967296)) (IntKind.u64.wrap (rd x3 x6))) 1000000000)) % 4294967296)) x4 (Int.tmod (Go.bits .or .u64 (IntKind.u64.wrap (x5 * 4294967296)) (IntKind.u64.wrap (rd x3 x6))) 1000000000) (wrap64 (x6 - 1))) else (none)) else (none)) else ((bobbinref2_trimmed.f k x3).bind fun t122 => (bobbinref2_Text.l2 k t122 x4 x5 0))
def bobbinref2_Text.l2 : Nat → List Int → List Int → Int → Int → Option (ByteArray)
 | 0, _, _, _, _ => none
 | k + 1, x3, x4, x5, x7 => if x7 < 9 then (if x4.length < 140737488355328 then (bobbinref2_Text.l2 k x3 (x4 ++ [(IntKind.u64.wrap (48 + (Int.tmod x5 10))) % 256]) (IntKind.u64.wrap (Int.tdiv x5 10)) (wrap64 (x7 + 1))) else (none)) else (bobbinref2_Text.l0 k x3 x4)
def bobbinref2_Text.j4 : Nat → List Int → Int → Option (ByteArray)
 | 0, _, _ => none
 | k + 1, x4, x8 => bobbinref2_Text.l4 k x4 ([] : List Int) (wrap64 (x8 - 1))
def bobbinref2_Text.l4 : Nat → List Int → List Int → Int → Option (ByteArray)
 | 0, _, _, _ => none
 | k + 1, x4, x9, x10 => if x10 ≥ 0 then (if 0 ≤ x10 then (if x10 < (x4.length : Int) then (if x9.length < 140737488355328 then (bobbinref2_Text.l4 k x4 (x9 ++ [rd x4 x10]) (wrap64 (x10 - 1))) else (none)) else (none)) else (none)) else (some (strOfNums x9))
def bobbinref2_Text.l3 : Nat → List Int → Int → Option (ByteArray)
 | 0, _, _ => none
 | k + 1, x4, x8 => if x8 > 1 then (if 0 ≤ (wrap64 (x8 - 1)) then (if (wrap64 (x8 - 1)) < (x4.length : Int) then (if (rd x4 (wrap64 (x8 - 1))) = 48 then (bobbinref2_Text.l3 k x4 (wrap64 (x8 - 1))) else (bobbinref2_Text.j4 k x4 x8)) else (none)) else (none)) else (bobbinref2_Text.j4 k x4 x8)
end
def bobbinref2_Text.f (k : Nat) (l0 : List Int) : Option (ByteArray) := (PNat.bobbinref2_Norm.f k l0).bind fun t117 => (if (t117.length : Int) = 0 then (some (⟨#[48]⟩ : ByteArray)) else (bobbinref2_Text.l0 k t117 ([] : List Int)))
set_option maxRecDepth 100000 in
theorem bobbinref2_Text.calls (k : Nat) (A0 : Option Addr) (c0 : Nat) (l0 : List Int) (r : ByteArray) (w : World) (hr0 : Kd.C (Kd.int .u32) w A0 l0.length l0) (hc0 : l0.length ≤ c0) (h : bobbinref2_Text.f k l0 = some r) :
  Calls Tryz.prog 57 #[.slice A0 l0.length c0] w fun e w' => e = .returned (.string r) ∧ Below w.heap.size w w' := by
 have HR0 := md_ hr0
 have HC0 := md_ hc0
 clear hr0 hc0
 have HB := md_ (Below.refl w.heap.size w)
 have H : ((PNat.bobbinref2_Norm.f k l0).bind fun t117 => (if (t117.length : Int) = 0 then (some (⟨#[48]⟩ : ByteArray)) else (bobbinref2_Text.l0 k t117 ([] : List Int)))) = some r := h
 clear h
 replace H := Option.bind_eq_some_iff.mp H
 obtain ⟨t117, A20, H⟩ := H
 have A2 := md_ A20
 clear A20
 by_cases c3 : (t117.length : Int) = 0
 ·rw [if_pos c3] at H
  have c3b0 : ((t117.length : Int) == 0) = true := beq_iff_eq.mpr c3
  have c3b1 : ((t117.length : Int) != 0) = false := bne_eq_false_iff_eq.mpr c3
  clear c3
  obtain rfl := Option.some.inj H
  go_enter Tryz.func57, Tryz.ntmps57
  go_wp2_with (first | ((with_reducible refine gate_callee (f := 77) rfl ?_); refine goesL_ (some 12) rfl rfl Tryz.func77 (by kernel_rfl) rfl #[.slice A0 l0.length c0] rfl gq_ ?_; (with_reducible refine (PNat.bobbinref2_Norm.calls k _ _ l0 t117 _ ?side1 ?side2 A2.out).mono ?_); (case side1 => repeat (first | exact HR0.out | (with_reducible refine Kd.C_alloc ?_ _) | (with_reducible refine Kd.C_drewN ?_ _) | (with_reducible refine Kd.C_drew ?_))); (case side2 => exact HC0.out); rintro e w4 ⟨v118, rfl, ho0, hb⟩; refine ⟨_, rfl, ?_⟩; have HO119 := md_ (Kd.R_lower ho0 (below_size (bq_ HB.out))); replace HB := bb_ HB hb; (try clear hb); (try clear hb2); (try clear hk); (try clear hi); (try clear ho0); obtain ⟨Ao5, co5, eo5⟩ := Kd.R_slice HO119.out; subst eo5))
  go_ret
  exact ⟨ew_, bq_ HB.out⟩
 ·rw [if_neg c3] at H
  have c3b0 : ((t117.length : Int) == 0) = false := beq_eq_false_iff_ne.mpr c3
  have c3b1 : ((t117.length : Int) != 0) = true := bne_iff_ne.mpr c3
  have c3b2 : ¬ (t117 = []) := fun h_ => c3 (by rw [h_]; rfl)
  have H' := md_ H
  clear H
  go_enter Tryz.func57, Tryz.ntmps57
  go_wp2_with (first | ((with_reducible refine gate_callee (f := 77) rfl ?_); refine goesL_ (some 12) rfl rfl Tryz.func77 (by kernel_rfl) rfl #[.slice A0 l0.length c0] rfl gq_ ?_; (with_reducible refine (PNat.bobbinref2_Norm.calls k _ _ l0 t117 _ ?side1 ?side2 A2.out).mono ?_); (case side1 => repeat (first | exact HR0.out | (with_reducible refine Kd.C_alloc ?_ _) | (with_reducible refine Kd.C_drewN ?_ _) | (with_reducible refine Kd.C_drew ?_))); (case side2 => exact HC0.out); rintro e w6 ⟨v118, rfl, ho0, hb⟩; refine ⟨_, rfl, ?_⟩; have HO119 := md_ (Kd.R_lower ho0 (below_size (bq_ HB.out))); replace HB := bb_ HB hb; (try clear hb); (try clear hb2); (try clear hk); (try clear hi); (try clear ho0); obtain ⟨Ao7, co7, eo7⟩ := Kd.R_slice HO119.out; subst eo7))
  go_loopg [3, 4] k (fun kq v3 v4 w' => ∃ (x3_1 : List Int) (x4_1 : List Int), Aside0 (bobbinref2_Text.l0 kq x3_1 x4_1 = some r) ∧ Aside0 (kq ≤ k) ∧ Aside0 (Kd.R (Kd.int .u32) 119 w' w.heap.size (fun _ => True) v3 x3_1) ∧ Aside0 (Kd.R (Kd.int .u8) 5 w' w.heap.size (fun _ => True) v4 x4_1) ∧ Aside0 (Below w.heap.size w w'))
  case atStart => exact ⟨(t117), (([] : List Int)), H', ⟨Nat.le_refl _⟩, ⟨rq_ HO119.out⟩, ⟨by first | exact Kd.R_nil _ _ _ _ _ | exact Kd.R_nil _ 5 _ 0 (fun _ => False) | exact Kd.R_nil _ 5 _ 0 _ | exact Kd.R_nil _ _ _ _ _ | exact Kd.N_nil _ _ _ _ _ | exact Kd.V_nil _ _ _ _ _ | exact Kd.Q_nil _ _ _ _ _ | exact Kd.S_nil _ _ _ _ _⟩, ⟨bq_ HB.out⟩⟩
  case round =>
   clear H'
   (try clear c1); (try clear c2); (try clear p2); (try clear c3); (try clear c3b0); (try clear c3b1); (try clear c3b2)
   obtain ⟨x3_1, x4_1, HA, HK1, HO_3, HO_4, HB⟩ := hrel
   cases gk with
   | zero => exact absurd HA.out (by simp [bobbinref2_Text.l0])
   | succ k1 =>
    have H := HA.out
    clear HA
    simp only [bobbinref2_Text.l0] at H
    by_cases c8 : (x3_1.length : Int) > 0
    ·rw [if_pos c8] at H
     have c8b0 : decide (0 < (x3_1.length : Int)) = true := decide_eq_true c8
     have c8b1 : decide (0 < x3_1.length) = true := decide_eq_true (by omega)
     clear c8
     have H' := md_ H
     clear H
     obtain ⟨Ao9, co9, eo9⟩ := Kd.R_slice HO_3.out
     subst eo9
     go_wp2
     go_loopg [5, 6] k1 (fun kq v5 v6 w' => ∃ (x3_2 : List Int) (x5_2 : Int) (x6_2 : Int), v5 = .int .u64 x5_2 ∧ v6 = .int .i64 x6_2 ∧ Aside0 (bobbinref2_Text.l1 kq x3_2 x4_1 x5_2 x6_2 = some r) ∧ Aside0 (kq ≤ k1) ∧ Aside0 (Kd.R (Kd.int .u32) 119 w' w.heap.size (fun _ => True) (.slice Ao9 x3_1.length co9) x3_2) ∧ Aside0 (Kd.R (Kd.int .u8) 5 w' w.heap.size (fun _ => True) u4 x4_1) ∧ Aside0 (Below w.heap.size w w'))
     case atStart => exact ⟨(x3_1), (0), (wrap64 ((x3_1.length : Int) - 1)), aq_, aq_, H', ⟨Nat.le_refl _⟩, ⟨rq_ HO_3.out⟩, ⟨rq_ HO_4.out⟩, ⟨bq_ HB.out⟩⟩
     case round =>
      clear H'
      (try clear c1); (try clear c2); (try clear p2); (try clear c3); (try clear c3b0); (try clear c3b1); (try clear c3b2); (try clear p6); (try clear c8); (try clear c8b0); (try clear c8b1); (try clear p2)
      obtain ⟨x3_2, x5_2, x6_2, rfl, rfl, HA, HK2, HO_3, HO_4, HB⟩ := hrel
      have hl3_2 := (Kd.R_reads' HO_3.out).1
      rw [hl3_2] at HO_3
      (try simp only [hl3_2])
      (try simp only [hl3_2] at HO_4)
      cases gk with
      | zero => exact absurd HA.out (by simp [bobbinref2_Text.l1])
      | succ k2 =>
       have H := HA.out
       clear HA
       simp only [bobbinref2_Text.l1] at H
       by_cases c10 : x6_2 ≥ 0
       ·rw [if_pos c10] at H
        have c10b0 : decide (0 ≤ x6_2) = true := decide_eq_true c10
        clear c10
        obtain ⟨c11b0, H⟩ := od_ H
        obtain ⟨c12b0, H⟩ := od_ H
        obtain ⟨y121, hy121⟩ : ∃ y_ : List Int, y_ = (x3_2.set (x6_2 : Int).toNat ((IntKind.u64.wrap (Int.tdiv (Go.bits .or .u64 (IntKind.u64.wrap (x5_2 * 4294967296)) (IntKind.u64.wrap (rd x3_2 x6_2))) 1000000000)) % 4294967296)) := ⟨_, rfl⟩
        replace H : (bobbinref2_Text.l1 k2 y121 x4_1 (Int.tmod (Go.bits .or .u64 (IntKind.u64.wrap (x5_2 * 4294967296)) (IntKind.u64.wrap (rd x3_2 x6_2))) 1000000000) (wrap64 (x6_2 - 1))) = some r := by first | (rw [hy121]; with_reducible exact H) | (have H2_ := (Option.bind_some _ _).symm.trans H; rw [hy121]; with_reducible exact H2_) | (have H2_ := (Option.bind_some _ _).symm.trans H; with_reducible exact H2_) | with_reducible exact H | (rw [hy121]; exact H) | exact H
        have Ny121 := md_ hy121
        clear hy121
        have H' := md_ H
        clear H
        have p120 : 0 ≤ (x6_2 : Int) := oq_
        have q120 : x6_2 < (x3_2.length : Int) := oq_
        obtain ⟨ad120, e120, hx120_0⟩ := Kd.at_int (Kd.R_reads' HO_3.out).2.2 x6_2 p120 q120
        cases e120
        replace p120 := eq_true p120
        replace q120 := eq_true q120
        have p13 : 0 ≤ (x6_2 : Int) := oq_
        have q13 : (x6_2 : Int) < ((x3_2.length : Int) : Int) := oq_
        obtain ⟨go13, co13, eo13, gb13, gl13, cl13, HG13⟩ := Kd.R_form HO_3.out (by omega)
        (first | cases eo13 | (injection eo13 with ea_ en_ ec_; (first | subst ea_ | (injection ea_ with ea_; subst ea_)); subst ec_; clear en_))
        have GB13 := md_ gb13
        have GG13 := md_ HG13
        clear gb13 gl13 HG13
        (first | simp only [add_plain] at hx120_0 | skip)
        obtain ⟨hx13_0, hf13_0⟩ := Kd.R_celln 0 HO_3.out (x6_2 : Int) p13 q13
        (try simp only [Int.toNat_natCast] at hx13_0)
        (try simp only [Int.toNat_natCast] at hf13_0)
        replace p13 := eq_true p13
        replace q13 := eq_true q13
        have HP14 := Kd.R_putg HO_3.out (x6_2 : Int) ((IntKind.u64.wrap (Int.tdiv (Go.bits .or .u64 (IntKind.u64.wrap (x5_2 * 4294967296)) (IntKind.u64.wrap (rd x3_2 x6_2))) 1000000000)) % 4294967296)
        go_wp2_with (first | ((with_reducible refine gate_store (t := 119) (p := 39) rfl ?_); refine store_event (t := 119) (p := 39) (v := ?vo_w15) (w1 := (wr.setCell ⟨go13, (x6_2 : Int).toNat, none⟩ (.int .u32 ((IntKind.u64.wrap (Int.tdiv (Go.bits .or .u64 (IntKind.u64.wrap (x5_2 * 4294967296)) (IntKind.u64.wrap (rd x3_2 x6_2))) 1000000000)) % 4294967296)))) ?hg ?ho ?hn ?hr ?_; (case ho => rfl); (case hg => rfl); (case hn => rfl); (case hr => first | (go_simp; done) | (go_simp; rfl) | (obtain ⟨hx_, hf_⟩ := Kd.R_celln 0 HO_3.out (x6_2 : Int) oq_ oq_; (try simp only [Int.toNat_natCast] at hx_); (try simp only [Int.toNat_natCast] at hf_); first | (go_simp; done) | (go_simp; rfl))); intro w15 hw; have hg : wr.grownBy w15 (some go13) := (by rw [hw]; exact HP14.2); have hp_ : Kd.R (Kd.int .u32) 119 w15 w.heap.size (fun _ => True) (.slice (some ⟨go13, 0, none⟩) x3_2.length co9) y121 := (by rw [hw, Ny121.out]; exact HP14.1); clear HP14; have n0_ := md_ (hp_); have n1_ := md_ (Kd.R_over' (v := (.slice (some ⟨go13, 0, none⟩) x3_2.length co9)) (rq_ HO_4.out) (Kd.R_typed HO_3.out) (by decide) hg); have n2_ := md_ ((by rw [hw]; exact below_set (HB.out) GB13.out : Below w.heap.size w w15)); clear HO_3; clear HO_4; clear HB; have HO_3 := n0_; have HO_4 := n1_; have HB := n2_; clear n0_ n1_ n2_; clear hg hw hp_))
        (try simp only [← hl3_2])
        go_roundg k2
        case measure => have := HK1.out; have := HK2.out; omega
        case rel => exact ⟨(y121), (Int.tmod (Go.bits .or .u64 (IntKind.u64.wrap (x5_2 * 4294967296)) (IntKind.u64.wrap (rd x3_2 x6_2))) 1000000000), (wrap64 (x6_2 - 1)), aq_, aq_, H', ⟨by have := HK1.out; have := HK2.out; omega⟩, ⟨by (try simp only [hl3_2]); (with_reducible repeat (first | apply Kd.R_alloc | apply Kd.R_drewN | apply Kd.R_drew)); exact HO_3.out⟩, ⟨by (try simp only [hl3_2]); (with_reducible repeat (first | apply Kd.R_alloc | apply Kd.R_drewN | apply Kd.R_drew)); exact HO_4.out⟩, ⟨bq_ HB.out⟩⟩
       ·rw [if_neg c10] at H
        have c10b0 : decide (0 ≤ x6_2) = false := decide_eq_false c10
        clear c10
        replace H := Option.bind_eq_some_iff.mp H
        obtain ⟨t122, A160, H⟩ := H
        have A16 := md_ A160
        clear A160
        have H' := md_ H
        clear H
        go_wp2_with (first | ((with_reducible refine gate_callee (f := 78) rfl ?_); refine goesL_ (some 43) rfl rfl Tryz.func78 (by kernel_rfl) rfl #[.slice Ao9 x3_2.length co9] rfl gq_ ?_; (with_reducible refine (bobbinref2_trimmed.calls k2 (fun k_ => some k_ = (.slice Ao9 x3_2.length co9 : Value).ownBlock) (.slice Ao9 x3_2.length co9) x3_2 t122 w _ ?side1 ?side2 A16.out).mono ?_); (case side1 => repeat (first | (with_reducible first | exact HB.out | apply below_alloc | apply pw_below_drewN | apply below_drew1) | exact HB.out)); (case side2 => exact Kd.R_tight rfl HO_3.out); rintro e w17 ⟨v123, rfl, ho0, hb, hkp⟩; refine ⟨_, rfl, ?_⟩; replace HO_4 := md_ (Kd.R_mono (ok' := fun k_ => True) (Kd.R_keptB ((Kd.R_apart' HO_4.out (Kd.R_typed HO_3.out) (by decide))) hkp (fun k_ hk_ hs_ => (hk_.2) hs_)) (fun k_ hk_ => trivial)); have HO124 := md_ (Kd.R_mono (ok' := fun k_ => True) ho0 (fun k_ hk_ => trivial)); replace HB := md_ (hb); clear HO_3; (try clear hb); (try clear hkp); (try clear ho0)))
        go_loopg [4, 5, 7] k2 (fun kq v4 v5 v7 w' => ∃ (x4_3 : List Int) (x5_3 : Int) (x7_3 : Int), v5 = .int .u64 x5_3 ∧ v7 = .int .i64 x7_3 ∧ Aside0 (bobbinref2_Text.l2 kq t122 x4_3 x5_3 x7_3 = some r) ∧ Aside0 (kq ≤ k2) ∧ Aside0 (Kd.R (Kd.int .u32) 119 w' w.heap.size (fun _ => True) v123 t122) ∧ Aside0 (Kd.R (Kd.int .u8) 5 w' w.heap.size (fun _ => True) v4 x4_3) ∧ Aside0 (Below w.heap.size w w'))
        case atStart => exact ⟨(x4_1), (x5_2), (0), aq_, aq_, H', ⟨Nat.le_refl _⟩, ⟨by (try simp only [hl3_2]); (with_reducible repeat (first | apply Kd.R_alloc | apply Kd.R_drewN | apply Kd.R_drew)); exact HO124.out⟩, ⟨by (try simp only [hl3_2]); (with_reducible repeat (first | apply Kd.R_alloc | apply Kd.R_drewN | apply Kd.R_drew)); exact HO_4.out⟩, ⟨bq_ HB.out⟩⟩
        case round =>
         clear H'
         (try clear c1); (try clear p1); (try clear q1); (try clear hx1); (try clear hf1); (try clear c2); (try clear p2); (try clear c3); (try clear c3b0); (try clear c3b1); (try clear c3b2); (try clear c4); (try clear p6); (try clear c8); (try clear c8b0); (try clear c8b1); (try clear c10); (try clear c10b0); (try clear c11); (try clear c11b0); (try clear c12); (try clear c12b0); (try clear p12); (try clear q12); (try clear hx12); (try clear p13); (try clear q13); (try clear hx13); (try clear hf13); (try clear c14); (try clear hx120_0); (try clear hx13_0); (try clear p120); (try clear p13); (try clear p2); (try clear p6); (try clear q120); (try clear q13)
         obtain ⟨x4_3, x5_3, x7_3, rfl, rfl, HA, HK3, HO_3, HO_4, HB⟩ := hrel
         cases gk with
         | zero => exact absurd HA.out (by simp [bobbinref2_Text.l2])
         | succ k3 =>
          have H := HA.out
          clear HA
          simp only [bobbinref2_Text.l2] at H
          by_cases c18 : x7_3 < 9
          ·rw [if_pos c18] at H
           have c18b0 := decide_eq_true c18
           clear c18
           obtain ⟨c19, H⟩ := oi_ H
           have LMc19 := md_ c19
           clear c19
           obtain ⟨y125, hy125⟩ : ∃ y_ : List Int, y_ = (x4_3 ++ [(IntKind.u64.wrap (48 + (Int.tmod x5_3 10))) % 256]) := ⟨_, rfl⟩
           replace H : (bobbinref2_Text.l2 k3 t122 y125 (IntKind.u64.wrap (Int.tdiv x5_3 10)) (wrap64 (x7_3 + 1))) = some r := by first | (rw [hy125]; with_reducible exact H) | (have H2_ := (Option.bind_some _ _).symm.trans H; rw [hy125]; with_reducible exact H2_) | (have H2_ := (Option.bind_some _ _).symm.trans H; with_reducible exact H2_) | with_reducible exact H | (rw [hy125]; exact H) | exact H
           have Ny125 := md_ hy125
           clear hy125
           have H' := md_ H
           clear H
           go_wp2_with (first | ((with_reducible refine gate_builtin (b := .append) (xs := #[.tmp 48, .tmp 53]) rfl ?_); at_builtin; refine Kd.R_append (Kd.int .u8) (w0 := w) w.heap.size rfl (.tmp 48) (.tmp 53) 72 5 (.int .u8 0) 1 rfl Tryz.underlying72 info5 rfl (by decide) (by omega) u4 x4_3 ((IntKind.u64.wrap (48 + (Int.tmod x5_3 10))) % 256) [.int .u8 ((IntKind.u64.wrap (48 + (Int.tmod x5_3 10))) % 256)] (fun _ => True) (fun _ => False) rfl rfl ?aP (fun _ hk => hk.elim) ?aF ?aO ?aB ?aS ?aL ?_; (case aP => exact rfl); (case aB => exact (bq_ HB.out)); (case aF => exact (fun _ _ => trivial)); (case aO => exact (rq_ HO_4.out)); (case aS => exact (below_size (bq_ HB.out))); (case aL => have := LMc19.out; omega); intro v126 w20 ho hb hg hat; rw [← Ny125.out] at ho; replace HO_3 := md_ (Kd.R_over' (rq_ HO_3.out) (Kd.R_typed (rq_ HO_4.out)) (by decide) hg); replace HB := md_ (hb); have HO127 := md_ (ho); clear HO_4; clear ho hb hg hat))
           go_roundg k3
           case measure => have := HK1.out; have := HK2.out; have := HK3.out; omega
           case rel => exact ⟨(y125), (IntKind.u64.wrap (Int.tdiv x5_3 10)), (wrap64 (x7_3 + 1)), aq_, aq_, H', ⟨by have := HK1.out; have := HK2.out; have := HK3.out; omega⟩, ⟨by (try simp only [hl3_2]); (with_reducible repeat (first | apply Kd.R_alloc | apply Kd.R_drewN | apply Kd.R_drew)); exact HO_3.out⟩, ⟨by (try simp only [hl3_2]); (with_reducible repeat (first | apply Kd.R_alloc | apply Kd.R_drewN | apply Kd.R_drew)); exact HO127.out⟩, ⟨bq_ HB.out⟩⟩
          ·rw [if_neg c18] at H
           have c18b0 := decide_eq_false c18
           clear c18
           have H' := md_ H
           clear H
           go_wp2
           (try simp only [← hl3_2])
           go_roundg k3
           case measure => have := HK1.out; have := HK2.out; have := HK3.out; omega
           case rel => exact ⟨(t122), (x4_3), H', ⟨by have := HK1.out; have := HK2.out; have := HK3.out; omega⟩, ⟨by (try simp only [hl3_2]); (with_reducible repeat (first | apply Kd.R_alloc | apply Kd.R_drewN | apply Kd.R_drew)); exact HO_3.out⟩, ⟨by (try simp only [hl3_2]); (with_reducible repeat (first | apply Kd.R_alloc | apply Kd.R_drewN | apply Kd.R_drew)); exact HO_4.out⟩, ⟨bq_ HB.out⟩⟩
    ·rw [if_neg c8] at H
     have c8b0 : decide (0 < (x3_1.length : Int)) = false := decide_eq_false c8
     have c8b1 : decide (0 < x3_1.length) = false := decide_eq_false (by omega)
     clear c8
     have HC21 := md_ H
     clear H
     obtain ⟨Ao22, co22, eo22⟩ := Kd.R_slice HO_3.out
     subst eo22
     obtain ⟨Ao23, co23, eo23⟩ := Kd.R_slice HO_4.out
     subst eo23
     go_upto_block 6 with (fail)
     go_cut [8] (fun v8 wc => ∃ (kq : Nat) (x8_20 : Int), v8 = .int .i64 x8_20 ∧ Aside0 (bobbinref2_Text.j4 kq x4_1 x8_20 = some r) ∧ Aside0 (kq ≤ k1) ∧ Aside0 (Kd.R (Kd.int .u8) 5 wc w.heap.size (fun _ => True) (.slice Ao23 x4_1.length co23) x4_1) ∧ Aside0 (Below w.heap.size w wc))
     case first =>
      have H := HC21.out
      clear HC21
      have H' := md_ H
      clear H
      go_wp2
      go_loopg [8] k1 (fun kq v8 w' => ∃ (x8_2 : Int), v8 = .int .i64 x8_2 ∧ Aside0 (bobbinref2_Text.l3 kq x4_1 x8_2 = some r) ∧ Aside0 (kq ≤ k1) ∧ Aside0 (Kd.R (Kd.int .u8) 5 w' w.heap.size (fun _ => True) (.slice Ao23 x4_1.length co23) x4_1) ∧ Aside0 (Below w.heap.size w w'))
      case atStart => exact ⟨((x4_1.length : Int)), aq_, H', ⟨Nat.le_refl _⟩, ⟨rq_ HO_4.out⟩, ⟨bq_ HB.out⟩⟩
      case round =>
       clear H'
       (try clear c1); (try clear p1); (try clear q1); (try clear hx1); (try clear hf1); (try clear c2); (try clear p2); (try clear c3); (try clear c3b0); (try clear c3b1); (try clear c3b2); (try clear c4); (try clear p6); (try clear c8); (try clear c8b0); (try clear c8b1); (try clear c10); (try clear c10b0); (try clear c11); (try clear c11b0); (try clear c12); (try clear c12b0); (try clear p12); (try clear q12); (try clear hx12); (try clear p13); (try clear q13); (try clear hx13); (try clear hf13); (try clear c14); (try clear c18); (try clear c18b0); (try clear c19); (try clear hx120_0); (try clear hx13_0); (try clear p1); (try clear p12); (try clear p120); (try clear p13); (try clear p2); (try clear p6); (try clear q1); (try clear q12); (try clear q120); (try clear q13)
       obtain ⟨x8_2, rfl, HA, HK2, HO_4, HB⟩ := hrel
       cases gk with
       | zero => exact absurd HA.out (by simp [bobbinref2_Text.l3])
       | succ k2 =>
        have H := HA.out
        clear HA
        simp only [bobbinref2_Text.l3] at H
        by_cases c24 : x8_2 > 1
        ·rw [if_pos c24] at H
         have c24b0 : decide (1 < x8_2) = true := decide_eq_true c24
         clear c24
         (first | rw [c24b0] | (simp only [i64_w, i32_w]; rw [c24b0]) | rw [c24b1] | skip)
         obtain ⟨ji25, hji25⟩ : ∃ j_ : Int, (wrap64 (x8_2 - 1)) = j_ := ⟨_, rfl⟩
         first | rw [hji25] at H | simp only [hji25] at H
         have hji25w : (IntKind.i64.wrap (x8_2 - 1)) = ji25 := (i64_w _).trans hji25
         obtain ⟨c26b0, H⟩ := od_ H
         obtain ⟨c27b0, H⟩ := od_ H
         by_cases c28 : (rd x4_1 (ji25)) = 48
         ·rw [if_pos c28] at H
          have c28b0 : ((rd x4_1 (ji25)) == 48) = true := beq_iff_eq.mpr c28
          have c28b1 : ((rd x4_1 (ji25)) != 48) = false := bne_eq_false_iff_eq.mpr c28
          clear c28
          have H' := md_ H
          clear H
          have p128 : 0 ≤ ((ji25) : Int) := oq_
          have q128 : (ji25) < (x4_1.length : Int) := oq_
          obtain ⟨ad128, e128, hx128_0⟩ := Kd.at_int (Kd.R_reads' HO_4.out).2.2 (ji25) p128 q128
          cases e128
          replace p128 := eq_true p128
          replace q128 := eq_true q128
          go_wp2
          go_roundg k2
          case measure => have := HK1.out; have := HK2.out; omega
          case rel => exact ⟨(ji25), (by first | rfl | (simp; done) | (simp only [← hji25] <;> (first | rfl | simp)) | (simp [*]; done)), H', ⟨by have := HK1.out; have := HK2.out; omega⟩, ⟨rq_ HO_4.out⟩, ⟨bq_ HB.out⟩⟩
         ·rw [if_neg c28] at H
          have c28b0 : ((rd x4_1 (ji25)) == 48) = false := beq_eq_false_iff_ne.mpr c28
          have c28b1 : ((rd x4_1 (ji25)) != 48) = true := bne_iff_ne.mpr c28
          have H' := md_ H
          clear H
          have p128 : 0 ≤ ((ji25) : Int) := oq_
          have q128 : (ji25) < (x4_1.length : Int) := oq_
          obtain ⟨ad128, e128, hx128_0⟩ := Kd.at_int (Kd.R_reads' HO_4.out).2.2 (ji25) p128 q128
          cases e128
          replace p128 := eq_true p128
          replace q128 := eq_true q128
          go_wp2
          go_meet
          case rel => exact ⟨_, (x8_2), aq_, H', ⟨by have := HK1.out; have := HK2.out; first | omega | exact Nat.le_refl _⟩, ⟨rq_ HO_4.out⟩, ⟨bq_ HB.out⟩⟩
        ·rw [if_neg c24] at H
         have c24b0 : decide (1 < x8_2) = false := decide_eq_false c24
         clear c24
         (first | rw [c24b0] | (simp only [i64_w, i32_w]; rw [c24b0]) | rw [c24b1] | skip)
         have H' := md_ H
         clear H
         go_wp2
         go_meet
         case rel => exact ⟨_, (x8_2), aq_, H', ⟨by have := HK1.out; have := HK2.out; first | omega | exact Nat.le_refl _⟩, ⟨rq_ HO_4.out⟩, ⟨bq_ HB.out⟩⟩
     case rest =>
      clear HC21
      (try clear c1); (try clear p1); (try clear q1); (try clear hx1); (try clear hf1); (try clear c2); (try clear p2); (try clear c3); (try clear c3b0); (try clear c3b1); (try clear c3b2); (try clear c4); (try clear p6); (try clear c8); (try clear c8b0); (try clear c8b1); (try clear c10); (try clear c10b0); (try clear c11); (try clear c11b0); (try clear c12); (try clear c12b0); (try clear p12); (try clear q12); (try clear hx12); (try clear p13); (try clear q13); (try clear hx13); (try clear hf13); (try clear c14); (try clear c18); (try clear c18b0); (try clear c19); (try clear c24); (try clear c24b0); (try clear c24b1); (try clear c26); (try clear c26b0); (try clear c27); (try clear c27b0); (try clear c28); (try clear c28b0); (try clear c28b1); (try clear hx120_0); (try clear hx128_0); (try clear hx13_0); (try clear p1); (try clear p12); (try clear p120); (try clear p128); (try clear p13); (try clear p2); (try clear p6); (try clear q1); (try clear q12); (try clear q120); (try clear q128); (try clear q13)
      obtain ⟨kq, x8_20, rfl, HA, HJ20, HO_4, HB⟩ := hcut
      cases kq with
      | zero => exact absurd HA.out (by simp [bobbinref2_Text.j4])
      | succ kj20 =>
       have H := HA.out
       clear HA
       simp only [bobbinref2_Text.j4] at H
       have H' := md_ H
       clear H
       go_wp2
       go_loopg [9, 10] kj20 (fun kq v9 v10 w' => ∃ (x9_3 : List Int) (x10_3 : Int), v10 = .int .i64 x10_3 ∧ Aside0 (bobbinref2_Text.l4 kq x4_1 x9_3 x10_3 = some r) ∧ Aside0 (kq ≤ kj20) ∧ Aside0 (Kd.R (Kd.int .u8) 5 w' w.heap.size (fun k_ => some k_ ≠ (v9 : Value).ownBlock) (.slice Ao23 x4_1.length co23) x4_1) ∧ Aside0 (Kd.R (Kd.int .u8) 5 w' w.heap.size (fun k_ => some k_ ≠ ((.slice Ao23 x4_1.length co23) : Value).ownBlock) v9 x9_3) ∧ Aside0 (Below w.heap.size w w'))
       case atStart => exact ⟨(([] : List Int)), (wrap64 (x8_20 - 1)), aq_, H', ⟨Nat.le_refl _⟩, ⟨by (with_reducible repeat (first | apply Kd.R_alloc | apply Kd.R_drewN | apply Kd.R_drew)); exact Kd.R_mono HO_4.out (fun _ hk => (by simp [Value.ownBlock]))⟩, ⟨by first | exact Kd.R_nil _ _ _ _ _ | exact Kd.R_nil _ 5 _ 0 (fun _ => False) | exact Kd.R_nil _ 5 _ 0 _ | exact Kd.R_nil _ _ _ _ _ | exact Kd.N_nil _ _ _ _ _ | exact Kd.V_nil _ _ _ _ _ | exact Kd.Q_nil _ _ _ _ _ | exact Kd.S_nil _ _ _ _ _⟩, ⟨bq_ HB.out⟩⟩
       case round =>
        clear H'
        (try clear c1); (try clear p1); (try clear q1); (try clear hx1); (try clear hf1); (try clear c2); (try clear p2); (try clear c3); (try clear c3b0); (try clear c3b1); (try clear c3b2); (try clear c4); (try clear p6); (try clear c8); (try clear c8b0); (try clear c8b1); (try clear c10); (try clear c10b0); (try clear c11); (try clear c11b0); (try clear c12); (try clear c12b0); (try clear p12); (try clear q12); (try clear hx12); (try clear p13); (try clear q13); (try clear hx13); (try clear hf13); (try clear c14); (try clear c18); (try clear c18b0); (try clear c19); (try clear c24); (try clear c24b0); (try clear c24b1); (try clear c26); (try clear c26b0); (try clear c27); (try clear c27b0); (try clear c28); (try clear c28b0); (try clear c28b1); (try clear hx120_0); (try clear hx128_0); (try clear hx13_0); (try clear p1); (try clear p12); (try clear p120); (try clear p128); (try clear p13); (try clear p2); (try clear p6); (try clear q1); (try clear q12); (try clear q120); (try clear q128); (try clear q13)
        obtain ⟨x9_3, x10_3, rfl, HA, HK3, HO_4, HO_9, HB⟩ := hrel
        cases gk with
        | zero => exact absurd HA.out (by simp [bobbinref2_Text.l4])
        | succ k3 =>
         have H := HA.out
         clear HA
         simp only [bobbinref2_Text.l4] at H
         by_cases c29 : x10_3 ≥ 0
         ·rw [if_pos c29] at H
          have c29b0 : decide (0 ≤ x10_3) = true := decide_eq_true c29
          clear c29
          obtain ⟨c30b0, H⟩ := od_ H
          obtain ⟨c31b0, H⟩ := od_ H
          obtain ⟨c32, H⟩ := oi_ H
          have LMc32 := md_ c32
          clear c32
          obtain ⟨y130, hy130⟩ : ∃ y_ : List Int, y_ = (x9_3 ++ [rd x4_1 x10_3]) := ⟨_, rfl⟩
          replace H : (bobbinref2_Text.l4 k3 x4_1 y130 (wrap64 (x10_3 - 1))) = some r := by first | (rw [hy130]; with_reducible exact H) | (have H2_ := (Option.bind_some _ _).symm.trans H; rw [hy130]; with_reducible exact H2_) | (have H2_ := (Option.bind_some _ _).symm.trans H; with_reducible exact H2_) | with_reducible exact H | (rw [hy130]; exact H) | exact H
          have Ny130 := md_ hy130
          clear hy130
          have H' := md_ H
          clear H
          have p129 : 0 ≤ (x10_3 : Int) := oq_
          have q129 : x10_3 < (x4_1.length : Int) := oq_
          obtain ⟨ad129, e129, hx129_0⟩ := Kd.at_int (Kd.R_reads' HO_4.out).2.2 x10_3 p129 q129
          cases e129
          replace p129 := eq_true p129
          replace q129 := eq_true q129
          go_wp2_with (first | ((with_reducible refine gate_builtin (b := .append) (xs := #[.tmp 77, .tmp 82]) rfl ?_); at_builtin; refine Kd.R_append (Kd.int .u8) (w0 := w) w.heap.size rfl (.tmp 77) (.tmp 82) 72 5 (.int .u8 0) 1 rfl Tryz.underlying72 info5 rfl (by decide) (by omega) u9 x9_3 (rd x4_1 x10_3) [.int .u8 (rd x4_1 x10_3)] (fun k_ => some k_ ≠ (.slice (some ad129) x4_1.length co23 : Value).ownBlock) (fun _ => False) rfl rfl ?aP (fun _ hk => hk.elim) ?aF ?aO ?aB ?aS ?aL ?_; (case aP => exact rfl); (case aB => exact (bq_ HB.out)); (case aF => exact (fun k_ hk => Kd.fresh' (Kd.R_lt (rq_ HO_4.out)) k_ hk)); (case aO => exact (rq_ HO_9.out)); (case aS => exact (below_size (bq_ HB.out))); (case aL => have := LMc32.out; omega); intro v131 w33 ho hb hg hat; rw [← Ny130.out] at ho; replace HO_4 := md_ (Kd.R_after (ok := (fun _ => True)) (by (with_reducible repeat (first | apply Kd.R_alloc | apply Kd.R_drewN | apply Kd.R_drew)); exact Kd.R_mono HO_4.out (fun _ hk => ⟨trivial, hk⟩)) hg hat); replace HB := md_ (hb); have HO132 := md_ (ho); clear HO_9; clear ho hb hg hat))
          go_roundg k3
          case measure => have := HK1.out; have := HJ20.out; have := HK3.out; omega
          case rel => exact ⟨(y130), (wrap64 (x10_3 - 1)), aq_, H', ⟨by have := HK1.out; have := HJ20.out; have := HK3.out; omega⟩, ⟨by (with_reducible repeat (first | apply Kd.R_alloc | apply Kd.R_drewN | apply Kd.R_drew)); exact Kd.R_mono HO_4.out (fun _ hk => hk.2)⟩, ⟨rq_ HO132.out⟩, ⟨bq_ HB.out⟩⟩
         ·rw [if_neg c29] at H
          have c29b0 : decide (0 ≤ x10_3) = false := decide_eq_false c29
          clear c29
          obtain rfl := Option.some.inj H
          have hcv34 := own_string (P := Tryz.prog) Tryz.underlying72 Tryz.underlying5 Tryz.underlying9 (Kd.own_of_R HO_9.out)
          go_wp2
          go_ret
          exact ⟨ew_, bq_ HB.out⟩
end Go.Proofs.YtneepokiioefgaaGreatDoor.PNatO
namespace Go.Proofs.YtneepokiioefgaaGreatDoor.PNat
open Go.RowKit YtneepokiioefgaaGreatDoorW.PrintWords YtneepokiioefgaaGreatDoorW.PrintLast YtneepokiioefgaaGreatDoorW.PrintMore
attribute [local go_sem] max2_int min2_int max_two min_two max_three min_three max_four min_four
def bobbinref2_Text.f (k : Nat) (l0 : List Int) : Option ByteArray := Go.Proofs.YtneepokiioefgaaGreatDoor.PNatO.bobbinref2_Text.f k l0
theorem bobbinref2_Text.calls (k : Nat) (A0 : Option Addr) (c0 : Nat) (l0 : List Int) (r : ByteArray) (w : World) (hr0 : Kd.C (Kd.int .u32) w A0 l0.length l0) (hc0 : l0.length ≤ c0) (h : bobbinref2_Text.f k l0 = some r) :
  Calls Tryz.prog 57 #[.slice A0 l0.length c0] w fun e w' => e = .returned (.string r) ∧ Below w.heap.size w w' := Go.Proofs.YtneepokiioefgaaGreatDoor.PNatO.bobbinref2_Text.calls k A0 c0 l0 r w hr0 hc0 h
end Go.Proofs.YtneepokiioefgaaGreatDoor.PNat
set_option maxHeartbeats 32000000
namespace Go.Proofs.YtneepokiioefgaaGreatDoor.Pure
open Go.RowKit PNat YtneepokiioefgaaGreatDoorW.PrintWords YtneepokiioefgaaGreatDoorW.PrintLast YtneepokiioefgaaGreatDoorW.PrintMore
theorem ev_norm (l : List Int) (hl : l.length ≤ 1000000000) : Ev (fun k => nat_Norm.f k l) (Num.trimW l) := by
 unfold nat_Norm.f
 refine Ev.bind (ev_trim l hl) ?_
 have := Num.trimW_length_le l
 refine Ev.congr (fun k => ?_) (Ev.now (Num.trimW l))
 simp only [slices_Clone_uint32_uint32.f]
 rw [if_pos (by omega)]
 rfl
theorem take_zero_step {l : List Int} {j : Nat} (hj : j < l.length) (h : rd l (j : Int) = 0) : Num.trimW (l.take (j + 1)) = Num.trimW (l.take j) := by
 rw [List.take_succ_eq_append_getElem hj]
 have e : l[j] = 0 := by simpa [rd, List.getD_eq_getElem?_getD, List.getElem?_eq_getElem hj] using h
 rw [e, Num.trimW_snoc_zero]
theorem take_ne_step {l : List Int} {j : Nat} (hj : j < l.length) (h : ¬ rd l (j : Int) = 0) : Num.trimW (l.take (j + 1)) = l.take (j + 1) := by
 rw [List.take_succ_eq_append_getElem hj]
 have e : l[j] ≠ 0 := by
  intro e
  apply h
  simpa [rd, List.getD_eq_getElem?_getD, List.getElem?_eq_getElem hj] using e
 rw [Num.trimW_snoc_ne _ e]
theorem rnorm_l0 (l : List Int) (hl : l.length ≤ 1000000000) : ∀ i : Nat, i ≤ l.length → Ev (fun k => bobbinref2_Norm.l0 k l (i : Int)) (Num.trimW (l.take i)) := by
 intro i
 induction i with
 | zero =>
  intro _
  refine Ev.step (f := fun _ => some (Num.trimW (l.take 0))) (fun k => ?_) (Ev.now _)
  simp only [bobbinref2_Norm.l0]
  rw [if_neg (by omega), if_pos (by omega), if_pos (by omega), if_pos (by simp)]
  simp [Num.trimW]
 | succ j ih =>
  intro hj
  have e1 : wrap64 (((j + 1 : Nat) : Int) - 1) = (j : Int) := by rw [i64_id (by omega) (by omega)]; omega
  by_cases h : rd l (j : Int) = 0
  ·refine Ev.step (fun k => ?_) (by rw [take_zero_step (by omega) h]; exact ih (by omega))
   simp only [bobbinref2_Norm.l0]
   rw [if_pos (by omega), e1, if_pos (by omega), if_pos (by omega), if_pos h]
  ·refine Ev.step (f := fun _ => some (Num.trimW (l.take (j + 1)))) (fun k => ?_) (Ev.now _)
   simp only [bobbinref2_Norm.l0]
   rw [if_pos (by omega), e1, if_pos (by omega), if_pos (by omega), if_neg h, if_pos (by omega), if_pos (by omega), if_pos (by simp; omega), take_ne_step (by omega) h]
   rfl
theorem ev_rnorm (l : List Int) (hl : l.length ≤ 1000000000) : Ev (fun k => bobbinref2_Norm.f k l) (Num.trimW l) := by
 unfold bobbinref2_Norm.f
 have := rnorm_l0 l hl l.length (Nat.le_refl _)
 rwa [List.take_length] at this
theorem rtrim_l0 (l : List Int) (hl : l.length ≤ 1000000000) : ∀ i : Nat, i ≤ l.length → Ev (fun k => bobbinref2_trimmed.l0 k l (i : Int)) (Num.trimW (l.take i)) := by
 intro i
 induction i with
 | zero =>
  intro _
  refine Ev.step (f := fun _ => some (Num.trimW (l.take 0))) (fun k => ?_) (Ev.now _)
  simp only [bobbinref2_trimmed.l0]
  rw [if_neg (by omega), if_pos (by omega), if_pos (by omega)]
  simp [Num.trimW]
 | succ j ih =>
  intro hj
  have e1 : wrap64 (((j + 1 : Nat) : Int) - 1) = (j : Int) := by rw [i64_id (by omega) (by omega)]; omega
  by_cases h : rd l (j : Int) = 0
  ·refine Ev.step (fun k => ?_) (by rw [take_zero_step (by omega) h]; exact ih (by omega))
   simp only [bobbinref2_trimmed.l0]
   rw [if_pos (by omega), e1, if_pos (by omega), if_pos (by omega), if_pos h]
  ·refine Ev.step (f := fun _ => some (Num.trimW (l.take (j + 1)))) (fun k => ?_) (Ev.now _)
   simp only [bobbinref2_trimmed.l0]
   rw [if_pos (by omega), e1, if_pos (by omega), if_pos (by omega), if_neg h, if_pos (by omega), if_pos (by omega), take_ne_step (by omega) h]
   rfl
theorem ev_rtrim (l : List Int) (hl : l.length ≤ 1000000000) : Ev (fun k => bobbinref2_trimmed.f k l) (Num.trimW l) := by
 unfold bobbinref2_trimmed.f
 have := rtrim_l0 l hl l.length (Nat.le_refl _)
 rwa [List.take_length] at this
open Go.Proofs.YtneepokiioefgaaGreatDoor.PNatO in
theorem otrim_l0 (l : List Int) (hl : l.length ≤ 1000000000) : ∀ i : Nat, i ≤ l.length → Ev (fun k => PNatO.bobbinref2_trimmed.l0 k l (i : Int)) (Num.trimW (l.take i)) := by
 intro i
 induction i with
 | zero =>
  intro _
  refine Ev.step (f := fun _ => some (Num.trimW (l.take 0))) (fun k => ?_) (Ev.now _)
  simp only [PNatO.bobbinref2_trimmed.l0]
  rw [if_neg (by omega), if_pos (by omega), if_pos (by omega)]
  simp [Num.trimW]
 | succ j ih =>
  intro hj
  have e1 : wrap64 (((j + 1 : Nat) : Int) - 1) = (j : Int) := by rw [i64_id (by omega) (by omega)]; omega
  by_cases h : rd l (j : Int) = 0
  ·refine Ev.step (fun k => ?_) (by rw [take_zero_step (by omega) h]; exact ih (by omega))
   simp only [PNatO.bobbinref2_trimmed.l0]
   rw [if_pos (by omega), e1, if_pos (by omega), if_pos (by omega), if_pos h]
  ·refine Ev.step (f := fun _ => some (Num.trimW (l.take (j + 1)))) (fun k => ?_) (Ev.now _)
   simp only [PNatO.bobbinref2_trimmed.l0]
   rw [if_pos (by omega), e1, if_pos (by omega), if_pos (by omega), if_neg h, if_pos (by omega), if_pos (by omega), take_ne_step (by omega) h]
   rfl
theorem ev_otrim (l : List Int) (hl : l.length ≤ 1000000000) : Ev (fun k => PNatO.bobbinref2_trimmed.f k l) (Num.trimW l) := by
 unfold PNatO.bobbinref2_trimmed.f
 have := otrim_l0 l hl l.length (Nat.le_refl _)
 rwa [List.take_length] at this
theorem onorm_l0 (l : List Int) (hl : l.length ≤ 1000000000) : ∀ i : Nat, i ≤ l.length → Ev (fun k => PNat.bobbinref2_Norm.l0 k l (i : Int)) (Num.trimW (l.take i)) := by
 intro i
 induction i with
 | zero =>
  intro _
  refine Ev.step (f := fun _ => some (Num.trimW (l.take 0))) (fun k => ?_) (Ev.now _)
  simp only [PNat.bobbinref2_Norm.l0]
  rw [if_neg (by omega), if_pos (by omega), if_pos (by omega), if_pos (by simp)]
  simp [Num.trimW]
 | succ j ih =>
  intro hj
  have e1 : wrap64 (((j + 1 : Nat) : Int) - 1) = (j : Int) := by rw [i64_id (by omega) (by omega)]; omega
  by_cases h : rd l (j : Int) = 0
  ·refine Ev.step (fun k => ?_) (by rw [take_zero_step (by omega) h]; exact ih (by omega))
   simp only [PNat.bobbinref2_Norm.l0]
   rw [if_pos (by omega), e1, if_pos (by omega), if_pos (by omega), if_pos h]
  ·refine Ev.step (f := fun _ => some (Num.trimW (l.take (j + 1)))) (fun k => ?_) (Ev.now _)
   simp only [PNat.bobbinref2_Norm.l0]
   rw [if_pos (by omega), e1, if_pos (by omega), if_pos (by omega), if_neg h, if_pos (by omega), if_pos (by omega), if_pos (by simp; omega), take_ne_step (by omega) h]
   rfl
theorem ev_onorm (l : List Int) (hl : l.length ≤ 1000000000) : Ev (fun k => PNat.bobbinref2_Norm.f k l) (Num.trimW l) := by
 unfold PNat.bobbinref2_Norm.f
 have := onorm_l0 l hl l.length (Nat.le_refl _)
 rwa [List.take_length] at this
theorem or_join {c x : Int} (hc0 : 0 ≤ c) (hc1 : c < 1000000000) (hx0 : 0 ≤ x) (hx1 : x < 4294967296) : bits .or .u64 (IntKind.u64.wrap (c * 4294967296)) (IntKind.u64.wrap x) = c * 4294967296 + x := by
 rw [u64_id (x := c * 4294967296) (by omega) (by omega), u64_id hx0 (by omega), u64_or _ _ (by omega) (by omega) (by omega) (by omega), nat_join 32 _ _ (by omega) (by omega)]
 omega
def rev9 (n : Int) : List Int := (List.range 9).map fun t => 48 + n / 10 ^ t % 10
theorem div_10 (n : Int) (k : Nat) : n / 10 ^ k / 10 = n / 10 ^ (k + 1) := by
 rw [Int.ediv_ediv_of_nonneg (Int.pow_nonneg (by decide)), Int.pow_succ]
theorem rtext_l2 (m b : List Int) (c : Int) (hc0 : 0 ≤ c) (hc1 : c < 1000000000) (R : ByteArray) (hb : b.length ≤ 100000000) (hR : Ev (fun k => PNatO.bobbinref2_Text.l0 k m (b ++ rev9 c)) R) (d : Nat) : ∀ t : Nat, t + d = 9 →
  Ev (fun k => PNatO.bobbinref2_Text.l2 k m (b ++ (List.range t).map (fun t => 48 + c / 10 ^ t % 10)) (c / 10 ^ t) (t : Int)) R := by
 induction d with
 | zero =>
  intro t ht
  obtain rfl : t = 9 := by omega
  refine Ev.step (fun k => ?_) hR
  simp only [PNatO.bobbinref2_Text.l2]
  rw [if_neg (by omega)]
  rfl
 | succ d ih =>
  intro t ht
  have h0 : 0 ≤ c / 10 ^ t := Int.ediv_nonneg hc0 (Int.pow_nonneg (by decide))
  have h1 : c / 10 ^ t < 1000000000 := Int.lt_of_le_of_lt (Int.ediv_le_self _ hc0) hc1
  refine Ev.step (fun k => ?_) (ih (t + 1) (by omega))
  simp only [PNatO.bobbinref2_Text.l2]
  rw [if_pos (by omega), if_pos (by simp; omega), i64_id (by omega) (by omega), List.range_succ, List.map_append, ← List.append_assoc]
  have e1 : IntKind.u64.wrap (48 + (c / 10 ^ t).tmod 10) % 256 = 48 + c / 10 ^ t % 10 := by
   rw [Int.tmod_eq_emod_of_nonneg h0, u64_id (by omega) (by omega)]
   omega
  have e2 : IntKind.u64.wrap ((c / 10 ^ t).tdiv 10) = c / 10 ^ (t + 1) := by
   rw [Int.tdiv_eq_ediv_of_nonneg h0, u64_id (by omega) (by omega), div_10]
  rw [e1, e2]
  rfl
theorem rtext_l1 (ml b : List Int) (hok : Num.okW ml) (hlen : ml.length ≤ 1000000) (R : ByteArray)
  (hR : Ev (fun k => PNatO.bobbinref2_Text.l2 k (Num.trimW (Num.shq 1000000000 ml).1) b (Num.shq 1000000000 ml).2 0) R) : ∀ (j : Nat) (cur : List Int) (c : Int), j ≤ ml.length → cur.length = ml.length → cur.take j = ml.take j → cur.drop j = (Num.shq 1000000000 (ml.drop j)).1 → c = (Num.shq 1000000000 (ml.drop j)).2 →
   Ev (fun k => PNatO.bobbinref2_Text.l1 k cur b c ((j : Int) - 1)) R := by
 intro j
 induction j with
 | zero =>
  intro cur c hj hl ht hd hc
  have e1 : cur = (Num.shq 1000000000 ml).1 := by simpa using hd
  have e2 : c = (Num.shq 1000000000 ml).2 := by simpa using hc
  refine Ev.step (f := fun k => (PNatO.bobbinref2_trimmed.f k cur).bind fun t => PNatO.bobbinref2_Text.l2 k t b c 0) (fun k => ?_) ?_
  ·simp only [PNatO.bobbinref2_Text.l1]
   rw [if_neg (by omega)]
  ·refine Ev.bind (ev_otrim cur (by omega)) ?_
   rw [e1, e2]
   exact hR
 | succ j ih =>
  intro cur c hj hl ht hd hc
  have hr := Num.shq_rest (d := 1000000000) (by decide) (ml.drop (j + 1))
  rw [← hc] at hr
  have hx : rd cur (j : Int) = ml[j]'(by omega) := cur_get hl (by omega) ht
  have hxr := hok (ml[j]'(by omega)) (List.getElem_mem _)
  have e0 : (((j + 1 : Nat) : Int) - 1) = (j : Int) := by omega
  have hs := shq_cons_step 1000000000 ml j (by omega)
  rw [← hc] at hs
  have hq0 : 0 ≤ (c * 4294967296 + ml[j]'(by omega)) / 1000000000 := by omega
  have hq1 : (c * 4294967296 + ml[j]'(by omega)) / 1000000000 < 4294967296 := by omega
  refine Ev.step (fun k => ?_) (ih (cur.set j ((c * 4294967296 + ml[j]'(by omega)) / 1000000000)) ((c * 4294967296 + ml[j]'(by omega)) % 1000000000) (by omega) (by rw [List.length_set]; exact hl) (cur_take _ ht) ?_ ?_)
  ·simp only [PNatO.bobbinref2_Text.l1]
   rw [e0, if_pos (by omega), if_pos (by omega), if_pos (by omega), hx, or_join hr.1 hr.2 hxr.1 hxr.2, Int.tdiv_eq_ediv_of_nonneg (by omega), Int.tmod_eq_emod_of_nonneg (by omega), u64_id (by omega) (by omega), Int.emod_eq_of_lt hq0 hq1, i64_id (by omega) (by omega)]
   rfl
  ·rw [cur_drop _ (by omega), hd, hs]
  ·rw [hs]
theorem rtext_l4 (b : List Int) (hb : b.length ≤ 100000000) : ∀ (i : Nat) (acc : List Int), i ≤ b.length → acc.length + i ≤ 100000000 →
  Ev (fun k => PNatO.bobbinref2_Text.l4 k b acc ((i : Int) - 1)) (strOfNums (acc ++ (b.take i).reverse)) := by
 intro i
 induction i with
 | zero =>
  intro acc _ _
  refine Ev.step (f := fun _ => some (strOfNums (acc ++ (b.take 0).reverse))) (fun k => ?_) (Ev.now _)
  simp only [PNatO.bobbinref2_Text.l4]
  rw [if_neg (by omega)]
  simp
 | succ i ih =>
  intro acc hi ha
  have e0 : (((i + 1 : Nat) : Int) - 1) = (i : Int) := by omega
  have hg : rd b (i : Int) = b[i]'(by omega) := by simp [rd, List.getD_eq_getElem?_getD, List.getElem?_eq_getElem (show i < b.length by omega)]
  have key := ih (acc ++ [b[i]'(by omega)]) (by omega) (by simp; omega)
  rw [List.take_succ_eq_append_getElem (show i < b.length by omega), List.reverse_append]
  rw [List.append_assoc] at key
  refine Ev.step (fun k => ?_) key
  simp only [PNatO.bobbinref2_Text.l4]
  rw [e0, if_pos (by omega), if_pos (by omega), if_pos (by omega), if_pos (by omega), hg, i64_id (by omega) (by omega)]
theorem rtext_j4 (b : List Int) (hb : b.length ≤ 90000000) (n : Nat) (hn : n ≤ b.length) : Ev (fun k => PNatO.bobbinref2_Text.j4 k b (n : Int)) (strOfNums (b.take n).reverse) := by
 refine Ev.step (f := fun k => PNatO.bobbinref2_Text.l4 k b [] ((n : Int) - 1)) (fun k => ?_) ?_
 ·simp only [PNatO.bobbinref2_Text.j4]
  rw [i64_id (by omega) (by omega)]
 ·exact rtext_l4 b (by omega) n [] hn (by simp; omega)
theorem rtext_l3 (b : List Int) (hb : b.length ≤ 90000000) : ∀ n : Nat, n ≤ b.length → (∃ c ∈ b.take n, c ≠ 48) →
  Ev (fun k => PNatO.bobbinref2_Text.l3 k b (n : Int)) (strOfNums ((b.take n).reverse.dropWhile (· == 48))) := by
 intro n
 induction n with
 | zero => rintro _ ⟨c, hc, _⟩; simp at hc
 | succ j ih =>
  rintro hn ⟨c, hc, hcne⟩
  have hg : rd b (j : Int) = b[j]'(by omega) := by simp [rd, List.getD_eq_getElem?_getD, List.getElem?_eq_getElem (show j < b.length by omega)]
  rw [List.take_succ_eq_append_getElem (show j < b.length by omega)] at hc
  by_cases h48 : b[j]'(by omega) = 48
  ·have hc2 : c ∈ b.take j := by
    rcases List.mem_append.1 hc with h | h
    ·exact h
    ·simp only [List.mem_singleton] at h
     exact absurd (h.trans h48) hcne
   have hj : 0 < j := by
    rcases Nat.eq_zero_or_pos j with h | h
    ·subst h; simp at hc2
    ·exact h
   refine Ev.step (fun k => ?_) (by
    rw [List.take_succ_eq_append_getElem (show j < b.length by omega), h48, List.reverse_append]
    exact ih (by omega) ⟨c, hc2, hcne⟩)
   simp only [PNatO.bobbinref2_Text.l3]
   have e1 : wrap64 (((j + 1 : Nat) : Int) - 1) = (j : Int) := by rw [i64_id (by omega) (by omega)]; omega
   rw [if_pos (by omega), e1, if_pos (by omega), if_pos (by omega), hg, if_pos h48]
  ·have e2 : (b.take (j + 1)).reverse.dropWhile (· == 48) = (b.take (j + 1)).reverse := by
    rw [List.take_succ_eq_append_getElem (show j < b.length by omega), List.reverse_append]
    simp [h48]
   rw [e2]
   refine Ev.step (fun k => ?_) (rtext_j4 b hb (j + 1) hn)
   simp only [PNatO.bobbinref2_Text.l3]
   by_cases h1 : 0 < j
   ·have e1 : wrap64 (((j + 1 : Nat) : Int) - 1) = (j : Int) := by rw [i64_id (by omega) (by omega)]; omega
    rw [if_pos (by omega), e1, if_pos (by omega), if_pos (by omega), hg, if_neg h48]
   ·rw [if_neg (by omega)]
theorem rtext_l0 (v : Nat) : ∀ (ml b : List Int), Num.valN ml = v → Num.okW ml → Num.normed ml → ml.length ≤ 1000000 → b.length + 9 * (Num.pcs v).length ≤ 90000000 → (∃ c ∈ b ++ (Num.pcs v).flatMap rev9, c ≠ 48) →
  Ev (fun k => PNatO.bobbinref2_Text.l0 k ml b) (strOfNums ((b ++ (Num.pcs v).flatMap rev9).reverse.dropWhile (· == 48))) := by
 induction v using Nat.strongRecOn with
 | _ v ih =>
  intro ml b hv hok hn hlen hb hex
  by_cases hm : ml = []
  ·subst hm
   have hv0 : v = 0 := hv.symm
   subst hv0
   rw [Num.pcs_zero] at hex hb ⊢
   simp only [List.flatMap_nil, List.append_nil] at hex ⊢
   have key := rtext_l3 b (by simp at hb; omega) b.length (Nat.le_refl _) (by rw [List.take_length]; exact hex)
   rw [List.take_length] at key
   refine Ev.step (fun k => ?_) key
   simp only [PNatO.bobbinref2_Text.l0]
   rw [if_neg (by simp)]
  ·have hpos : 0 < v := by
    rcases Nat.eq_zero_or_pos v with h | h
    ·exact absurd (by rw [← hn]; exact (Num.valN_zero hok).1 (hv.trans h)) hm
    ·exact h
   have hlp : 0 < ml.length := List.length_pos_iff.2 hm
   obtain ⟨e1, e2⟩ := Num.shq_val (d := 1000000000) (by decide) hok
   have e3 : Num.valN (Num.trimW (Num.shq 1000000000 ml).1) = v / 1000000000 := by rw [Num.trimW_val, e1, hv]; rfl
   have e4 : (Num.shq 1000000000 ml).2 = ((v % 1000000000 : Nat) : Int) := by rw [e2, hv]; rfl
   have hr := Num.shq_rest (d := 1000000000) (by decide) ml
   rw [Num.pcs_pos hpos] at hex hb ⊢
   simp only [List.flatMap_cons, List.length_cons] at hex hb ⊢
   rw [← e4] at hex ⊢
   rw [← List.append_assoc] at hex ⊢
   have hr9 : (rev9 (Num.shq 1000000000 ml).2).length = 9 := by simp [rev9]
   have key := ih (v / 1000000000) (Nat.div_lt_self hpos (by decide)) (Num.trimW (Num.shq 1000000000 ml).1) (b ++ rev9 (Num.shq 1000000000 ml).2) e3 (Num.okW_trim (Num.shq_ok (by decide) hok)) (Num.normed_trim _)
    (by have := Num.trimW_length_le (Num.shq 1000000000 ml).1; rw [Num.shq_length] at this; omega) (by rw [List.length_append, hr9]; omega) hex
   have h2 := rtext_l2 (Num.trimW (Num.shq 1000000000 ml).1) b (Num.shq 1000000000 ml).2 hr.1 hr.2 _ (by omega) key 9 0 (by omega)
   have h2' := h2
   simp only [List.range_zero, List.map_nil, List.append_nil, Int.pow_zero, Int.ediv_one] at h2'
   have h1 := rtext_l1 ml b hok hlen _ h2' ml.length ml 0 (Nat.le_refl _) rfl rfl (by simp [Num.shq]) (by simp [Num.shq])
   refine Ev.step (fun k => ?_) h1
   simp only [PNatO.bobbinref2_Text.l0]
   rw [if_pos (by omega), i64_id (by omega) (by omega)]
theorem pcs_ne (v : Nat) (h : 0 < v) : ∃ z ∈ Num.pcs v, 0 < z ∧ z < 1000000000 := by
 induction v using Nat.strongRecOn with
 | _ v ih =>
  rw [Num.pcs_pos h]
  by_cases h1 : v % 1000000000 = 0
  ·obtain ⟨z, hz, h2⟩ := ih (v / 1000000000) (Nat.div_lt_self h (by decide)) (by omega)
   exact ⟨z, List.mem_cons_of_mem _ hz, h2⟩
  ·exact ⟨_, List.mem_cons_self, by omega⟩
theorem rev9_ne (z : Int) (h0 : 0 < z) (h1 : z < 1000000000) : ∃ c ∈ rev9 z, c ≠ 48 := by
 apply Classical.byContradiction
 intro hn
 have key : ∀ t, t < 9 → z / 10 ^ t % 10 = 0 := by
  intro t ht
  apply Classical.byContradiction
  intro h
  exact hn ⟨48 + z / 10 ^ t % 10, List.mem_map.2 ⟨t, List.mem_range.2 ht, rfl⟩, by omega⟩
 have k0 := key 0 (by decide); have k1 := key 1 (by decide); have k2 := key 2 (by decide); have k3 := key 3 (by decide); have k4 := key 4 (by decide)
 have k5 := key 5 (by decide); have k6 := key 6 (by decide); have k7 := key 7 (by decide); have k8 := key 8 (by decide)
 simp only [Int.pow_zero, Int.reducePow] at k0 k1 k2 k3 k4 k5 k6 k7 k8
 omega
theorem dropWhile_map (l : List Int) (h : ∀ z ∈ l, 0 ≤ z ∧ z < 256) : (l.dropWhile (· == 48)).map (fun z => UInt8.ofNat z.toNat) = (l.map (fun z => UInt8.ofNat z.toNat)).dropWhile (· == 48) := by
 induction l with
 | nil => rfl
 | cons z zs ih =>
  have hz := h z List.mem_cons_self
  have ih := ih (fun x hx => h x (List.mem_cons_of_mem _ hx))
  by_cases e : z = 48
  ·subst e
   simpa using ih
  ·have e2 : ¬ UInt8.ofNat z.toNat = 48 := by
    intro h2
    have := congrArg UInt8.toNat h2
    rw [UInt8.toNat_ofNat_of_lt' (by simp [UInt8.size]; omega)] at this
    have h3 : (48 : UInt8).toNat = 48 := rfl
    omega
   simp [e, e2]
theorem ev_rtext (l : List Int) (hok : Num.okW l) (hlen : l.length ≤ 1000000) : Ev (fun k => bobbinref2_Text.f k l) ⟨(Num.textN (Num.valN l)).toArray⟩ := by
 unfold bobbinref2_Text.f PNatO.bobbinref2_Text.f
 refine Ev.bind (ev_onorm l (by omega)) ?_
 by_cases h0 : Num.valN l = 0
 ·have e := (Num.valN_zero hok).1 h0
  rw [e, h0]
  exact Ev.now _
 ·have hne : Num.trimW l ≠ [] := fun h => h0 ((Num.valN_zero hok).2 h)
  have hpos : ¬ ((Num.trimW l).length : Int) = 0 := by
   have := List.length_pos_iff.2 hne
   omega
  refine Ev.congr (f := fun k => PNatO.bobbinref2_Text.l0 k (Num.trimW l) []) (fun k => by rw [if_neg hpos]) ?_
  have hpl : (Num.pcs (Num.valN l)).length ≤ 2 * l.length := Num.pcs_len _ _ (by rw [Nat.pow_mul]; exact Num.valN_lt hok)
  obtain ⟨z, hz, hz0, hz1⟩ := pcs_ne (Num.valN l) (by omega)
  obtain ⟨c, hc, hc48⟩ := rev9_ne z hz0 hz1
  have key := rtext_l0 (Num.valN l) (Num.trimW l) [] (Num.trimW_val l) (Num.okW_trim hok) (Num.normed_trim l) (by have := Num.trimW_length_le l; omega) (by simp; omega) ⟨c, by simpa using ⟨z, hz, hc⟩, hc48⟩
  have e : strOfNums (([] ++ (Num.pcs (Num.valN l)).flatMap rev9).reverse.dropWhile (· == 48)) = ⟨(Num.textN (Num.valN l)).toArray⟩ := by
   unfold strOfNums Num.textN
   rw [if_neg h0, List.nil_append, dropWhile_map _ (by
    intro y hy
    rw [List.mem_reverse] at hy
    obtain ⟨z, _, hy⟩ := List.mem_flatMap.1 hy
    obtain ⟨t, _, rfl⟩ := List.mem_map.1 hy
    have h1 := Int.emod_nonneg (z / 10 ^ t) (show (10 : Int) ≠ 0 by decide)
    have h2 := Int.emod_lt_of_pos (z / 10 ^ t) (show (0 : Int) < 10 by decide)
    omega), List.reverse_flatMap, List.map_flatMap]
   congr 3
  rw [← e]
  exact key
end Go.Proofs.YtneepokiioefgaaGreatDoor.Pure
namespace Go.Num
end Go.Num
namespace Go.Proofs.YtneepokiioefgaaGreatDoor.Pure
open Go.RowKit PNat YtneepokiioefgaaGreatDoorW.PrintWords YtneepokiioefgaaGreatDoorW.PrintLast YtneepokiioefgaaGreatDoorW.PrintMore
theorem rbits_l0 (d : Nat) : ∀ (x s : Nat), Num.bitsN x = d → s + d ≤ 100000000000 → x < 4294967296 → Ev (fun k => bobbinref2_Bits.l0 k (s : Int) (x : Int)) ((s + d : Nat) : Int) := by
 induction d with
 | zero =>
  intro x s hx hs _
  have h0 : x = 0 := by
   rcases Nat.eq_zero_or_pos x with h | h
   ·exact h
   ·have := Num.bitsN_pos h; omega
  subst h0
  refine Ev.step (f := fun _ => some (s : Int)) (fun k => ?_) (Ev.now _)
  simp only [bobbinref2_Bits.l0]
  rw [if_neg (by omega)]
 | succ d ih =>
  intro x s hx hs hlt
  have h0 : 0 < x := by
   rcases Nat.eq_zero_or_pos x with h | h
   ·rw [h, Num.bitsN_zero] at hx; omega
   ·exact h
  have h1 : Num.bitsN (x / 2) = d := by
   rcases Nat.eq_zero_or_pos (x / 2) with h | h
   ·have : x = 1 := by omega
    rw [this] at hx
    have h2 : Num.bitsN 1 = 1 := Num.bitsN_eq (n := 0) (by decide) (by decide)
    rw [h2] at hx
    rw [h, Num.bitsN_zero]; omega
   ·have h3 := Num.bitsN_mul h 1 (x % 2) (by omega)
    rw [show x / 2 * 2 ^ 1 + x % 2 = x by rw [Nat.pow_one]; omega] at h3
    omega
  have h2 := ih (x / 2) (s + 1) h1 (by omega) (by omega)
  rw [show s + (d + 1) = s + 1 + d by omega]
  refine Ev.step (fun k => ?_) h2
  simp only [bobbinref2_Bits.l0]
  rw [if_pos (by omega), i64_id (by omega) (by omega)]
  rfl
theorem ev_rbits (l : List Int) (ok : Num.okW l) (hl : l.length ≤ 100000000) : Ev (fun k => bobbinref2_Bits.f k l) ((Num.bitsN (Num.valN l) : Nat) : Int) := by
 unfold bobbinref2_Bits.f
 refine Ev.bind (ev_rtrim l (by omega)) ?_
 have b0 := Num.trimW_length_le l
 have ht := Num.okW_trim ok
 rw [← Num.trimW_val l]
 have hn := Num.normed_trim l
 generalize Num.trimW l = t at b0 ht hn ⊢
 cases hm : t.length with
 | zero =>
  have : t = [] := List.length_eq_zero_iff.1 hm
  subst this
  refine Ev.congr (f := fun _ => some 0) (fun k => by rw [if_pos (by simp)]) (Ev.now _)
 | succ n =>
  have e : wrap64 (((n + 1 : Nat) : Int) - 1) = (n : Int) := by rw [i64_id (by omega) (by omega)]; omega
  have o := rd_ok ht n
  rw [Num.bitsN_words ht hn n hm]
  have e2 : (rd t (n : Int)).toNat = (t.getD n 0).toNat := rd_toNat t n
  have e4 : rd t (n : Int) = (((t.getD n 0).toNat : Nat) : Int) := by omega
  refine Ev.congr (fun k => ?_) (rbits_l0 _ (t.getD n 0).toNat (32 * n) rfl (by have h1 := Num.bitsN_mono (show (t.getD n 0).toNat ≤ 4294967295 by omega); have h2 : Num.bitsN 4294967295 = 32 := Num.bitsN_eq (by decide) (by decide); omega) (by omega))
  rw [if_neg (by omega), e, if_pos (by omega), if_pos (by omega), i64_id (x := 32 * (n : Int)) (by omega) (by omega), e4]
  rfl
theorem radd_l0 {a b : List Int} (oa : Num.okW a) (ob : Num.okW b) (ha : a.length ≤ 100000000) (hb : b.length ≤ 100000000) (d : Nat) : ∀ (i : Nat) (dn : List Int) (c : Int), i + d = max a.length b.length → dn.length = i → Num.okW dn → 0 ≤ c ∧ c ≤ 1 →
  Num.valN dn + 4294967296 ^ i * c.toNat = Num.valN (a.take i) + Num.valN (b.take i) →
  Ev (fun k => bobbinref2_Add.l0 k a b dn c (i : Int)) (Num.wordsN (Num.valN a + Num.valN b)) := by
 induction d with
 | zero =>
  intro i dn c hi hd od hc hv
  have h1 : a.length ≤ i := by omega
  have h2 : b.length ≤ i := by omega
  refine Ev.step (f := fun k => bobbinref2_Add.j1 k a b dn c (i : Int) false) (fun k => ?_) ?_
  ·simp only [bobbinref2_Add.l0]
   rw [if_neg (by omega), decide_eq_false (by omega)]
  ·refine Ev.step (f := fun k => (bobbinref2_Norm.f k (dn ++ [c])).bind fun t => some t) (fun k => ?_) ?_
   ·simp only [bobbinref2_Add.j1]
    rw [if_neg (by simp), if_pos (by omega), Int.emod_eq_of_lt (show 0 ≤ c by omega) (by omega)]
   ·refine Ev.bind (ev_rnorm _ (by simp only [List.length_append, List.length_cons, List.length_nil]; omega)) ?_
    rw [Num.trim_words (Num.okW_snoc od hc.1 (by omega)), Num.val_snoc, hd, hv, List.take_of_length_le (by omega), List.take_of_length_le (by omega)]
    exact Ev.now _
 | succ d ih =>
  intro i dn c hi hd od hc hv
  have ox := rd_ok oa i
  have oy := rd_ok ob i
  have hn := ih (i + 1) (dn ++ [(rd a (i : Int) + rd b (i : Int) + c) % 4294967296]) ((rd a (i : Int) + rd b (i : Int) + c) / 4294967296) (by omega) (by simp [hd]) (Num.okW_snoc od (by omega) (by omega)) (by omega) (by
   rw [Num.val_snoc, hd, Num.val_take_next, Num.val_take_next, ← rd_toNat, ← rd_toNat, Nat.pow_succ]
   have := carry_step (x := (rd a (i : Int)).toNat) (y := (rd b (i : Int)).toNat) hv
   rw [show ((rd a (i : Int) + rd b (i : Int) + c) % 4294967296).toNat = ((rd a (i : Int)).toNat + (rd b (i : Int)).toNat + c.toNat) % 4294967296 by omega, show ((rd a (i : Int) + rd b (i : Int) + c) / 4294967296).toNat = ((rd a (i : Int)).toNat + (rd b (i : Int)).toNat + c.toNat) / 4294967296 by omega]
   exact this)
  refine Ev.step (f := fun k => bobbinref2_Add.j1 k a b dn c (i : Int) true) (fun k => ?_) ?_
  ·simp only [bobbinref2_Add.l0]
   by_cases h1 : (i : Int) < (a.length : Int)
   ·rw [if_pos h1]
   ·rw [if_neg h1, decide_eq_true (by omega)]
  ·refine Ev.step (fun k => ?_) hn
   simp only [bobbinref2_Add.j1, if_true]
   rw [i64_id (show -9223372036854775808 ≤ (i : Int) + 1 by omega) (by omega)]
   by_cases h1 : (i : Int) < (a.length : Int)
   ·rw [if_pos h1, if_pos (by omega)]
    by_cases h2 : (i : Int) < (b.length : Int)
    ·have eT : IntKind.u64.wrap (IntKind.u64.wrap (c + IntKind.u64.wrap (rd a (i : Int))) + IntKind.u64.wrap (rd b (i : Int))) = rd a (i : Int) + rd b (i : Int) + c := by simp only [u64_mod]; omega
     rw [if_pos h2, if_pos (by omega), eT]
     rfl
    ·have h0 : rd b (i : Int) = 0 := rd_beyond (by omega)
     have eT : IntKind.u64.wrap (c + IntKind.u64.wrap (rd a (i : Int))) = rd a (i : Int) + rd b (i : Int) + c := by rw [h0]; simp only [u64_mod]; omega
     rw [if_neg h2, if_pos (by omega), eT]
     rfl
   ·have h2 : (i : Int) < (b.length : Int) := by omega
    have h0 : rd a (i : Int) = 0 := rd_beyond (by omega)
    have eT : IntKind.u64.wrap (c + IntKind.u64.wrap (rd b (i : Int))) = rd a (i : Int) + rd b (i : Int) + c := by rw [h0]; simp only [u64_mod]; omega
    rw [if_neg h1, if_pos h2, if_pos (by omega), if_pos (by omega), eT]
    rfl
theorem ev_radd (l0 l1 : List Int) (o0 : Num.okW l0) (o1 : Num.okW l1) (h0 : l0.length ≤ 100000000) (h1 : l1.length ≤ 100000000) : Ev (fun k => bobbinref2_Add.f k l0 l1) (Num.wordsN (Num.valN l0 + Num.valN l1)) := by
 unfold bobbinref2_Add.f
 exact radd_l0 o0 o1 h0 h1 (max l0.length l1.length) 0 [] 0 (by omega) rfl Num.okW_nil (by omega) (by simp [Num.valN])
end Go.Proofs.YtneepokiioefgaaGreatDoor.Pure
namespace Go.Proofs.YtneepokiioefgaaGreatDoor.natSums
open Go.ChangeShapes Go.WideShapes Go.ChangeAt Go.RowKit
open Go.ChangeMaps (open_string shut_string)
end Go.Proofs.YtneepokiioefgaaGreatDoor.natSums
namespace Go.Proofs.YtneepokiioefgaaGreatDoor
end Go.Proofs.YtneepokiioefgaaGreatDoor
set_option maxHeartbeats 32000000
namespace Go.Proofs.YtneepokiioefgaaGreatDoor.Dec
open Go.RowKit PNat Go.Proofs.YtneepokiioefgaaGreatDoor.Pure YtneepokiioefgaaGreatDoorW.PrintWords YtneepokiioefgaaGreatDoorW.PrintLast YtneepokiioefgaaGreatDoorW.PrintMore
theorem wordsN_len {v n : Nat} (h : v < 4294967296 ^ n) : (Num.wordsN v).length ≤ n := by
 rcases Nat.lt_or_ge n (Num.wordsN v).length with c | c
 ·obtain ⟨m, hm⟩ : ∃ m, (Num.wordsN v).length = m + 1 := ⟨(Num.wordsN v).length - 1, by omega⟩
  have h1 := Num.val_ge (Num.wordsN_ok v) (Num.wordsN_normed v) m hm
  rw [Num.wordsN_val] at h1
  have h2 : 4294967296 ^ n ≤ 4294967296 ^ m := Nat.pow_le_pow_right (by decide) (by omega)
  omega
 ·exact c
theorem wordsN_len_ge {v n : Nat} (h : 4294967296 ^ n ≤ v) : n < (Num.wordsN v).length := by
 rcases Nat.lt_or_ge n (Num.wordsN v).length with c | c
 ·exact c
 ·have h1 := Num.valN_lt (Num.wordsN_ok v)
  rw [Num.wordsN_val] at h1
  have h2 : 4294967296 ^ (Num.wordsN v).length ≤ 4294967296 ^ n := Nat.pow_le_pow_right (by decide) c
  omega
def Nm (w : World) (v : Value) (n : Nat) : Prop := Kd.V (Kd.int .u32) 119 w 0 (fun _ => True) v (Num.wordsN n)
def Fit (n : Nat) : Prop := (Num.wordsN n).length ≤ 2000
theorem fit_iff {n k : Nat} : (Num.wordsN n).length ≤ k ↔ n < 4294967296 ^ k := by
 constructor
 ·intro h
  rcases Nat.lt_or_ge n (4294967296 ^ k) with d | d
  ·exact d
  ·have := wordsN_len_ge d
   omega
 ·exact wordsN_len
theorem len_lt {n b k : Nat} (h : n < 2 ^ b) (hb : b ≤ 32 * k) : (Num.wordsN n).length ≤ k := by
 refine wordsN_len (Nat.lt_of_lt_of_le h ?_)
 rw [show (4294967296 : Nat) = 2 ^ 32 from rfl, ← Nat.pow_mul]
 exact Nat.pow_le_pow_right (by omega) hb
theorem len_le {m n k : Nat} (h : (Num.wordsN n).length ≤ k) (hm : m ≤ n) : (Num.wordsN m).length ≤ k := fit_iff.2 (Nat.lt_of_le_of_lt hm (fit_iff.1 h))
theorem fit_lt {n b : Nat} (h : n < 2 ^ b) (hb : b ≤ 64000) : Fit n := len_lt h (by omega)
theorem fit_le {m n : Nat} (h : Fit n) (hm : m ≤ n) : Fit m := len_le h hm
theorem Nm.open {w : World} {v : Value} {n : Nat} (h : Nm w v n) : ∃ A c, v = .slice A (Num.wordsN n).length c ∧ (Num.wordsN n).length ≤ c ∧ Kd.C (Kd.int .u32) w A (Num.wordsN n).length (Num.wordsN n) ∧ Kd.V (Kd.int .u32) 119 w w.heap.size (fun _ => True) (.slice A (Num.wordsN n).length c) (Num.wordsN n) := by
 obtain ⟨A, c, rfl⟩ := Kd.V_slice h
 obtain ⟨_, h2, h3⟩ := Kd.V_reads' h
 exact ⟨A, c, rfl, h2, h3, Kd.V_map h (fun _ hf => hf)⟩
theorem Nm.below {w w1 : World} {v : Value} {n : Nat} (h : Nm w v n) (hb : Below w.heap.size w w1) : Nm w1 v n := Kd.V_below h hb
theorem Nm.of_V {w : World} {b : Nat} {ok : Nat → Prop} {v : Value} {n : Nat} (h : Kd.V (Kd.int .u32) 119 w b ok v (Num.wordsN n)) : Nm w v n := Kd.V_mono (Kd.V_map h (fun _ hf => hf)) (fun _ _ => trivial)
theorem Nm.of_R {w : World} {b : Nat} {ok : Nat → Prop} {v : Value} {n : Nat} (h : Kd.R (Kd.int .u32) 119 w b ok v (Num.wordsN n)) : Nm w v n := Nm.of_V (Kd.R_V (base' := 0) h)
theorem Nm.nil (w : World) : Nm w (.slice none 0 0) 0 := by
 unfold Nm
 rw [Num.wordsN_zero]
 exact Kd.V_nil _ _ _ _ _
theorem Ev.at {α : Type} {f : Nat → Option α} {v : α} (h : Ev f v) : ∃ k, f k = some v := by
 obtain ⟨K, hK⟩ := h
 exact ⟨K, hK K (Nat.le_refl _)⟩
theorem fitV_of {n : Nat} (h : Fit n) : fitV n = (Num.wordsN n, 0) := by
 unfold fitV
 rw [if_neg (by unfold Fit at h; omega)]
theorem fitsW_of {n : Nat} (h : Fit n) : fitsW (Num.wordsN n) = (Num.wordsN n, 0) := by
 unfold fitsW
 rw [Num.wordsN_normed, if_neg (by unfold Fit at h; omega)]
section
variable {w : World} {v u : Value} {a b : Nat}
theorem n_Parse (s : ByteArray) (hd : Num.digs s.data.toList = true) (h0 : s.data.toList ≠ []) (hs : s.data.toList.length ≤ 5000) (hf : Fit (Num.decL 0 s.data.toList)) :
  Calls Tryz.prog 116 #[.string s] w fun e w' => ∃ v, e = .returned (.tuple #[v, .int .i64 0]) ∧ Nm w' v (Num.decL 0 s.data.toList) ∧ Below w.heap.size w w' := by
 have hp : parseW s.data.toList = (Num.wordsN (Num.decL 0 s.data.toList), 0) := by
  unfold parseW
  rw [hd, if_neg (by simp), if_neg h0, if_neg (by omega), fitsW_of hf]
 have he := ev_parse s (by show s.data.size ≤ _; rw [← Array.length_toList]; omega)
 rw [hp] at he
 obtain ⟨k, hk⟩ := Ev.at he
 refine (nat_Parse.calls k s _ _ w hk).mono ?_
 rintro e w' ⟨v, rfl, h1, h2⟩
 exact ⟨v, rfl, Nm.of_V h1, h2⟩
theorem n_Mul (h0 : Nm w v a) (h1 : Nm w u b) (fa : Fit a) (fb : Fit b) (hf : Fit (a * b)) :
  Calls Tryz.prog 115 #[v, u] w fun e w' => ∃ r, e = .returned (.tuple #[r, .int .i64 0]) ∧ Nm w' r (a * b) ∧ Below w.heap.size w w' := by
 obtain ⟨A, c, rfl, _, _, g0⟩ := h0.open
 obtain ⟨A1, c1, rfl, _, _, g1⟩ := h1.open
 have he := ev_mul (Num.wordsN a) (Num.wordsN b) (Num.wordsN_ok a) (Num.wordsN_ok b) (by unfold Fit at fa; omega) (by unfold Fit at fb; omega)
 unfold mulW at he
 rw [Num.wordsN_val, Num.wordsN_val, if_neg (by unfold Fit at fa fb; omega), fitV_of hf] at he
 obtain ⟨k, hk⟩ := Ev.at he
 refine (nat_Mul.calls k _ _ _ _ _ _ _ _ _ _ w g0 g1 hk).mono ?_
 rintro e w' ⟨v, rfl, h1, h2⟩
 exact ⟨v, rfl, Nm.of_V h1, h2⟩
theorem n_Shl (h0 : Nm w v a) (fa : Fit a) (m : Nat) (hm : m ≤ 64000) (hf : Fit (a * 2 ^ m)) :
  Calls Tryz.prog 114 #[v, .int .i64 (m : Int)] w fun e w' => ∃ r, e = .returned (.tuple #[r, .int .i64 0]) ∧ Nm w' r (a * 2 ^ m) ∧ Below w.heap.size w w' := by
 obtain ⟨A, c, rfl, _, _, g0⟩ := h0.open
 have he := shift_left (Num.wordsN a) (Num.wordsN_ok a) (by rw [Num.wordsN_normed]; exact fa) (by unfold Fit at fa; omega) m hm
 rw [Num.wordsN_val, fitV_of hf] at he
 obtain ⟨k, hk⟩ := Ev.at he
 refine (nat_Shift.calls k _ _ _ _ _ _ _ w g0 hk).mono ?_
 rintro e w' ⟨v, rfl, h1, h2⟩
 exact ⟨v, rfl, Nm.of_V h1, h2⟩
theorem n_Add (h0 : Nm w v a) (h1 : Nm w u b) (fa : Fit a) (fb : Fit b) :
  Calls Tryz.prog 93 #[v, u] w fun e w' => ∃ r, e = .returned r ∧ Nm w' r (a + b) ∧ Below w.heap.size w w' := by
 obtain ⟨A, c, rfl, l0, g0, _⟩ := h0.open
 obtain ⟨A1, c1, rfl, l1, g1, _⟩ := h1.open
 have he := ev_add (Num.wordsN a) (Num.wordsN b) (Num.wordsN_ok a) (Num.wordsN_ok b) (by unfold Fit at fa; omega) (by unfold Fit at fb; omega)
 rw [Num.wordsN_val, Num.wordsN_val] at he
 obtain ⟨k, hk⟩ := Ev.at he
 refine (nat_Add.calls k _ _ _ _ _ _ _ w g0 l0 g1 l1 hk).mono ?_
 rintro e w' ⟨v, rfl, h1, h2⟩
 exact ⟨v, rfl, Nm.of_R h1, h2⟩
theorem n_Norm {A : Option Addr} {c : Nat} {l : List Int} (hr : Kd.C (Kd.int .u32) w A l.length l) (hc : l.length ≤ c) (ok : Num.okW l) (hl : l.length ≤ 100000) :
  Calls Tryz.prog 82 #[.slice A l.length c] w fun e w' => ∃ r, e = .returned r ∧ Nm w' r (Num.valN l) ∧ Below w.heap.size w w' := by
 have he := ev_norm l (by omega)
 rw [Num.trim_words ok] at he
 obtain ⟨k, hk⟩ := Ev.at he
 refine (nat_Norm.calls k _ _ _ _ w hr hc hk).mono ?_
 rintro e w' ⟨v, rfl, h1, h2⟩
 exact ⟨v, rfl, Nm.of_R h1, h2⟩
theorem n_Compare (h0 : Nm w v a) (h1 : Nm w u b) (fa : Fit a) (fb : Fit b) :
  Calls Tryz.prog 91 #[v, u] w fun e w' => e = .returned (.int .i64 (Num.cmpN a b)) ∧ Below w.heap.size w w' := by
 obtain ⟨A, c, rfl, l0, g0, _⟩ := h0.open
 obtain ⟨A1, c1, rfl, l1, g1, _⟩ := h1.open
 have he := ev_cmp (Num.wordsN a) (Num.wordsN b) (Num.wordsN_ok a) (Num.wordsN_ok b) (by unfold Fit at fa; omega) (by unfold Fit at fb; omega)
 rw [Num.wordsN_val, Num.wordsN_val] at he
 obtain ⟨k, hk⟩ := Ev.at he
 exact nat_Compare.calls k _ _ _ _ _ _ _ w g0 l0 g1 l1 hk
theorem n_Bits (h0 : Nm w v a) (fa : Fit a) :
  Calls Tryz.prog 62 #[v] w fun e w' => e = .returned (.int .i64 (Num.bitsN a : Nat)) ∧ Below w.heap.size w w' := by
 obtain ⟨A, c, rfl, l0, g0, _⟩ := h0.open
 have he := ev_bits (Num.wordsN a) (Num.wordsN_ok a) (by unfold Fit at fa; omega)
 rw [Num.wordsN_val] at he
 obtain ⟨k, hk⟩ := Ev.at he
 exact nat_Bits.calls k _ _ _ _ w g0 l0 hk
theorem n_Divide (h0 : Nm w v a) (h1 : Nm w u b) (fa : Fit a) (fb : Fit b) (hb : b ≠ 0) :
  Calls Tryz.prog 92 #[v, u] w fun e w' => ∃ q r, e = .returned (.tuple #[q, r, .int .i64 0]) ∧ Nm w' q (a / b) ∧ Nm w' r (a % b) ∧ Below w.heap.size w w' := by
 obtain ⟨A, c, rfl, _, _, g0⟩ := h0.open
 obtain ⟨A1, c1, rfl, _, _, g1⟩ := h1.open
 have he := ev_div (Num.wordsN a) (Num.wordsN b) (Num.wordsN_ok a) (Num.wordsN_ok b) (by unfold Fit at fa; omega) (by unfold Fit at fb; omega)
 unfold divW at he
 rw [Num.wordsN_val, Num.wordsN_val, if_neg (by unfold Fit at fa fb; omega), if_neg hb] at he
 obtain ⟨k, hk⟩ := Ev.at he
 refine (nat_Divide.calls k _ _ _ _ _ _ _ _ _ _ _ w g0 g1 hk).mono ?_
 rintro e w' ⟨q, r, rfl, h1, h2, h3⟩
 exact ⟨q, r, rfl, Nm.of_V h1, Nm.of_V h2, h3⟩
theorem n_Text (h0 : Nm w v a) (fa : Fit a) :
  Calls Tryz.prog 94 #[v] w fun e w' => e = .returned (.string ⟨(Num.textN a).toArray⟩) ∧ Below w.heap.size w w' := by
 obtain ⟨A, c, rfl, l0, g0, _⟩ := h0.open
 have he := text_f (Num.wordsN_ok a) (by unfold Fit at fa; omega)
 rw [Num.wordsN_val] at he
 exact nat_Text.calls _ _ _ _ w g0 l0 he
end
end Go.Proofs.YtneepokiioefgaaGreatDoor.Dec
set_option maxHeartbeats 32000000
namespace Go.Proofs.YtneepokiioefgaaGreatDoor.Dec
open Go.RowKit YtneepokiioefgaaGreatDoorW.PrintWords YtneepokiioefgaaGreatDoorW.PrintLast YtneepokiioefgaaGreatDoorW.PrintMore
attribute [local go_sem] max2_int min2_int max_two min_two max_three min_three max_four min_four
theorem d_times (w : World) {v u : Value} {a b : Nat} (h0 : Nm w v a) (h1 : Nm w u b) (fa : Fit a) (fb : Fit b) (hf : Fit (a * b)) :
  Calls Tryz.prog 89 #[v, u] w fun e w' => ∃ r, e = .returned r ∧ Nm w' r (a * b) ∧ Below w.heap.size w w' := by
 have HM := md_ (n_Mul h0 h1 fa fb hf)
 clear h0 h1
 go_enter Tryz.func89, Tryz.ntmps89
 go_wp2_with (go_at_call 115; refine HM.out.mono ?_; rintro e w' ⟨r, rfl, hr, hb⟩; have hr' := md_ hr; have hb' := md_ hb; clear hr hb)
 go_ret
 exact ⟨_, rfl, hr'.out, hb'.out⟩
theorem d_shifted (w : World) {v : Value} {a : Nat} (h0 : Nm w v a) (fa : Fit a) (m : Nat) (hm : m ≤ 64000) (hf : Fit (a * 2 ^ m)) :
  Calls Tryz.prog 88 #[v, .int .i64 (m : Int)] w fun e w' => ∃ r, e = .returned r ∧ Nm w' r (a * 2 ^ m) ∧ Below w.heap.size w w' := by
 have HM := md_ (n_Shl h0 fa m hm hf)
 obtain ⟨mm, hmm⟩ : ∃ z : Int, (m : Int) = z := ⟨_, rfl⟩
 rw [hmm] at HM ⊢
 clear h0
 go_enter Tryz.func88, Tryz.ntmps88
 go_wp2_with (go_at_call 114; refine HM.out.mono ?_; rintro e w' ⟨r, rfl, hr, hb⟩; have hr' := md_ hr; have hb' := md_ hb; clear hr hb)
 go_ret
 exact ⟨_, rfl, hr'.out, hb'.out⟩
theorem d_ten (w : World) (n : Int) (hn : n ≤ 1500) :
  Calls Tryz.prog 90 #[.int .i64 n] w fun e w' => ∃ r, e = .returned r ∧ Nm w' r (10 ^ n.toNat) ∧ Below w.heap.size w w' := by
 obtain ⟨c, hc⟩ : ∃ c : Int, max n 0 = c := ⟨_, rfl⟩
 have hc' : c = (n.toNat : Int) := by omega
 have hcb : (if n < 0 then 0 else n) = c := by split <;> omega
 have hrep : ∀ k, Lib.repeatL [48] k = List.replicate k 48 := fun k => by
  induction k with
  | zero => rfl
  | succ k ih => rw [Lib.repeatL, ih, List.replicate_succ]; rfl
 have hdec : ∀ k, Num.decL 0 (49 :: List.replicate k 48) = 10 ^ k := fun k => by
  have h : ∀ k a, Num.decL a (List.replicate k 48) = a * 10 ^ k := fun k => by
   induction k with
   | zero => intro a; exact (Nat.mul_one a).symm
   | succ k ih =>
    intro a
    have h1 : Num.decL a (List.replicate (k + 1) 48) = Num.decL (a * 10 + 0) (List.replicate k 48) := rfl
    rw [h1, ih, Nat.pow_succ, Nat.add_zero, Nat.mul_assoc, Nat.mul_comm (10 ^ k) 10]
  have h1 : Num.decL 0 (49 :: List.replicate k 48) = Num.decL 1 (List.replicate k 48) := rfl
  rw [h1, h]
  exact Nat.one_mul _
 have hfit : Fit (10 ^ n.toNat) := by
  refine fit_lt (b := 4 * n.toNat + 1) ?_ (by omega)
  rw [Nat.pow_succ, Nat.pow_mul]
  have := Nat.pow_le_pow_left (show 10 ≤ 2 ^ 4 by decide) n.toNat
  have h1 := Nat.two_pow_pos (4 * n.toNat)
  rw [Nat.pow_mul] at h1
  omega
 have HP : Aside0 (∀ w, Calls Tryz.prog 116 #[.string ⟨(49 :: List.replicate n.toNat 48).toArray⟩] w fun e w' => ∃ v, e = .returned (.tuple #[v, .int .i64 0]) ∧ Nm w' v (10 ^ n.toNat) ∧ Below w.heap.size w w') := ⟨fun w => by
  have := n_Parse (w := w) ⟨(49 :: List.replicate n.toNat 48).toArray⟩ (by unfold Num.digs; rw [List.all_eq_true]; intro x hx; rcases List.mem_cons.1 hx with rfl | hx; decide; rw [List.eq_of_mem_replicate hx]; decide) (by simp) (by simp; omega) (by show Fit (Num.decL 0 (49 :: List.replicate n.toNat 48)); rw [hdec]; exact hfit)
  show Calls Tryz.prog 116 _ w _
  rw [show Num.decL 0 (⟨(49 :: List.replicate n.toNat 48).toArray⟩ : ByteArray).data.toList = 10 ^ n.toNat from hdec _] at this
  exact this⟩
 have HR : Aside0 (∀ w, Calls Tryz.prog 61 #[.string ⟨#[48]⟩, .int .i64 c] w fun e w' => e = .returned (.string ⟨(List.replicate n.toNat 48).toArray⟩) ∧ Below w.heap.size w w') := ⟨fun w => by
  rw [hc']
  rw [← hrep]; exact Tryz.strings_Repeat ⟨#[48]⟩ n.toNat w (by omega) (by show 1 * _ ≤ _; omega)⟩
 have hcat : (⟨#[49]⟩ : ByteArray) ++ ⟨(List.replicate n.toNat 48).toArray⟩ = ⟨(49 :: List.replicate n.toNat 48).toArray⟩ := by
  apply ByteArray.ext
  simp
 obtain ⟨zz, hz⟩ : ∃ z : ByteArray, (⟨(List.replicate n.toNat 48).toArray⟩ : ByteArray) = z := ⟨_, rfl⟩
 obtain ⟨yy, hy⟩ : ∃ z : ByteArray, (⟨(49 :: List.replicate n.toNat 48).toArray⟩ : ByteArray) = z := ⟨_, rfl⟩
 rw [hz, hy] at hcat
 rw [hz] at HR
 rw [hy] at HP
 have HB := md_ (Below.refl w.heap.size w)
 have hl : ¬ 9223372036854775807 < 1 + zz.size := by
  rw [← hz]
  show ¬ 9223372036854775807 < 1 + (List.replicate n.toNat (48 : UInt8)).toArray.size
  rw [List.size_toArray, List.length_replicate]
  omega
 clear hz hy hrep hdec hfit hc'
 go_enter Tryz.func90, Tryz.ntmps90
 go_wp2_with (first | (go_at_call 61; (with_reducible refine (HR.out _).mono ?_); rintro e w' ⟨rfl, hb⟩; replace HB := bt_ HB hb; clear hb) | (go_at_call 116; (with_reducible refine (HP.out _).mono ?_); rintro e w' ⟨r, rfl, hr, hb⟩; have n0_ := md_ (below_step HB.out hb); have hr' := md_ hr; clear HB hb hr; have HB := n0_; clear n0_))
 go_ret
 exact ⟨_, rfl, hr'.out, HB.out⟩
end Go.Proofs.YtneepokiioefgaaGreatDoor.Dec
set_option maxHeartbeats 32000000
namespace Go.Proofs.YtneepokiioefgaaGreatDoor.Dec
open Go.RowKit Go.Flt Go.Proofs.YtneepokiioefgaaGreatDoor.Pure YtneepokiioefgaaGreatDoorW.PrintWords YtneepokiioefgaaGreatDoorW.PrintLast YtneepokiioefgaaGreatDoorW.PrintMore
theorem words_one : Num.wordsN 1 = [1] := by
 rw [Num.wordsN_pos (by decide), Num.wordsN_zero]
 rfl
theorem ten_lt (k : Nat) : 10 ^ k < 2 ^ (4 * k + 1) := by
 rw [Nat.pow_succ, Nat.pow_mul]
 have := Nat.pow_le_pow_left (show 10 ≤ 2 ^ 4 by decide) k
 have h1 := Nat.two_pow_pos (4 * k)
 rw [Nat.pow_mul] at h1
 omega
theorem bits_lt {m b : Nat} (h : m < 2 ^ b) : Num.bitsN m ≤ b := by
 rcases Nat.eq_zero_or_pos m with z | z
 ·subst z; rw [Num.bitsN_zero]; omega
 ·rcases Nat.lt_or_ge b (Num.bitsN m) with q | q
  ·exfalso
   have h1 := Num.bitsN_le z
   have h3 : 2 ^ b ≤ 2 ^ (Num.bitsN m - 1) := Nat.pow_le_pow_right (by decide) (by omega)
   omega
  ·exact q
end Go.Proofs.YtneepokiioefgaaGreatDoor.Dec
set_option maxHeartbeats 32000000
namespace Go.Flt
def lhs (m : Nat) (e k : Int) : Nat := m * 10 ^ (-k).toNat * 2 ^ e.toNat
def rhs (e k : Int) : Nat := 10 ^ k.toNat * 2 ^ (-e).toNat
def rch (m : Nat) (e k : Int) : Bool := decide (rhs e k ≤ lhs m e k)
end Go.Flt
namespace Go.Proofs.YtneepokiioefgaaGreatDoor.Dec
open Go.RowKit Go.Flt Go.Proofs.YtneepokiioefgaaGreatDoor.Pure YtneepokiioefgaaGreatDoorW.PrintWords YtneepokiioefgaaGreatDoorW.PrintLast YtneepokiioefgaaGreatDoorW.PrintMore
attribute [local go_sem] max2_int min2_int max_two min_two max_three min_three max_four min_four
theorem mul_lt_pow {a b i j : Nat} (h : a < 2 ^ i) (k : b < 2 ^ j) : a * b < 2 ^ (i + j) := by
 rw [Nat.pow_add]
 exact Nat.mul_lt_mul'' h k
theorem two_lt (k : Nat) : 2 ^ k < 2 ^ (k + 1) := Nat.pow_lt_pow_right (by decide) (by omega)
set_option maxRecDepth 100000 in
theorem d_reaches (w : World) {v : Value} {m : Nat} (hv : Nm w v m) (hm : m < 2 ^ 53) (e k : Int) (he : -1074 ≤ e) (he2 : e ≤ 971) (hk : -400 ≤ k) (hk2 : k ≤ 400) :
  Calls Tryz.prog 63 #[v, .int .i64 e, .int .i64 k] w fun x w' => x = .returned (.bool (rch m e k)) ∧ Below w.heap.size w w' := by
 obtain ⟨nk, hnk⟩ : ∃ z, -k = z := ⟨_, rfl⟩
 obtain ⟨ne, hne⟩ : ∃ z, -e = z := ⟨_, rfl⟩
 have T1 := md_ (fun w => d_ten w nk (by omega))
 have T2 := md_ (fun w => d_ten w k (by omega))
 have b1 := ten_lt nk.toNat
 have b2 := ten_lt k.toNat
 have c1 := two_lt e.toNat
 have c2 := two_lt ne.toNat
 have fm : Fit m := fit_lt hm (by omega)
 have d1 := mul_lt_pow hm b1
 have d2 := mul_lt_pow d1 c1
 have d3 := mul_lt_pow b2 c2
 have hL : m * 10 ^ nk.toNat * 2 ^ e.toNat = lhs m e k := by unfold lhs; rw [hnk]
 have hR : 10 ^ k.toNat * 2 ^ ne.toNat = rhs e k := by unfold rhs; rw [hne]
 have X := md_ (fun (w : World) (v u : Value) (h : Nm w v m) (g : Nm w u (10 ^ nk.toNat)) => d_times w h g fm (fit_lt b1 (by omega)) (fit_lt d1 (by omega)))
 have S1 := md_ (fun (w : World) (v : Value) (h : Nm w v (m * 10 ^ nk.toNat)) => d_shifted w h (fit_lt d1 (by omega)) e.toNat (by omega) (fit_lt d2 (by omega)))
 have S2 := md_ (fun (w : World) (v : Value) (h : Nm w v (10 ^ k.toNat)) => d_shifted w h (fit_lt b2 (by omega)) ne.toNat (by omega) (fit_lt d3 (by omega)))
 have CC := md_ (fun (w : World) (v u : Value) (h : Nm w v (m * 10 ^ nk.toNat * 2 ^ e.toNat)) (g : Nm w u (10 ^ k.toNat * 2 ^ ne.toNat)) => n_Compare h g (fit_lt d2 (by omega)) (fit_lt d3 (by omega)))
 obtain ⟨me, hme⟩ : ∃ z : Int, max e 0 = z := ⟨_, rfl⟩
 obtain ⟨mn, hmn⟩ : ∃ z : Int, max ne 0 = z := ⟨_, rfl⟩
 have hme' : ((e.toNat : Nat) : Int) = me := by omega
 have hmn' : ((ne.toNat : Nat) : Int) = mn := by omega
 have hme2 : (if e < 0 then 0 else e) = me := by rw [← hme]; split <;> omega
 have hmn2 : (if ne < 0 then 0 else ne) = mn := by rw [← hmn]; split <;> omega
 rw [hme'] at S1
 rw [hmn'] at S2
 obtain ⟨p1, hp1⟩ : ∃ z, 10 ^ nk.toNat = z := ⟨_, rfl⟩
 obtain ⟨p2, hp2⟩ : ∃ z, 10 ^ k.toNat = z := ⟨_, rfl⟩
 rw [hL, hR] at CC
 rw [hL] at S1
 rw [hR] at S2
 rw [hp1] at T1 X S1
 rw [hp2] at T2 S2
 obtain ⟨L, hLL⟩ : ∃ z, lhs m e k = z := ⟨_, rfl⟩
 obtain ⟨R, hRR⟩ : ∃ z, rhs e k = z := ⟨_, rfl⟩
 have hres : decide (0 ≤ Num.cmpN L R) = rch m e k := by
  unfold rch Num.cmpN
  rw [hLL, hRR, decide_eq_decide]
  split
  ·omega
  ·split <;> omega
 rw [hLL, hRR] at CC
 rw [hLL] at S1
 rw [hRR] at S2
 obtain ⟨res, hrr⟩ : ∃ z, rch m e k = z := ⟨_, rfl⟩
 rw [hrr] at hres ⊢
 obtain ⟨cc, hcc⟩ : ∃ z, Num.cmpN L R = z := ⟨_, rfl⟩
 rw [hcc] at hres CC
 obtain ⟨q1, hq1⟩ : ∃ z, m * p1 = z := ⟨_, rfl⟩
 rw [hq1] at X S1
 have w1 : wrap64 (-k) = nk := by rw [hnk, i64_id (by omega) (by omega)]
 have w2 : IntKind.i64.wrap (-k) = nk := (i64_w _).trans w1
 have w3 : wrap64 (-e) = ne := by rw [hne, i64_id (by omega) (by omega)]
 have w4 : IntKind.i64.wrap (-e) = ne := (i64_w _).trans w3
 have HB := md_ (Below.refl w.heap.size w)
 have hv0 := md_ hv
 clear hv hm he he2 hk hk2 hnk hne b1 b2 c1 c2 fm d1 d2 d3 hL hR hme' hmn' hp1 hp2 hLL hRR hrr hcc hq1
 go_enter Tryz.func63, Tryz.ntmps63
 go_wp2_with (first
  | (go_at_call 90; (with_reducible refine (T1.out _).mono ?_); rintro e w' ⟨r1, rfl, hr, hb⟩; have n0_ := md_ (below_step HB.out hb); have hv1 := md_ hr; have n1_ := md_ (hv0.out.below hb); clear HB hb hr hv0; have HB := n0_; have hv0 := n1_; clear n0_ n1_)
  | (go_at_call 89; (with_reducible refine (X.out _ _ _ hv0.out hv1.out).mono ?_); rintro e w' ⟨r2, rfl, hr, hb⟩; have n0_ := md_ (below_step HB.out hb); have hv2 := md_ hr; clear HB hb hr; have HB := n0_; clear n0_)
  | (go_at_call 88; (with_reducible refine (S1.out _ _ hv2.out).mono ?_); rintro e w' ⟨r3, rfl, hr, hb⟩; have n0_ := md_ (below_step HB.out hb); have hv3 := md_ hr; clear HB hb hr; have HB := n0_; clear n0_)
  | (go_at_call 90; (with_reducible refine (T2.out _).mono ?_); rintro e w' ⟨r4, rfl, hr, hb⟩; have n0_ := md_ (below_step HB.out hb); have hv4 := md_ hr; have n1_ := md_ (hv3.out.below hb); clear HB hb hr hv3; have HB := n0_; have hv3 := n1_; clear n0_ n1_)
  | (go_at_call 88; (with_reducible refine (S2.out _ _ hv4.out).mono ?_); rintro e w' ⟨r5, rfl, hr, hb⟩; have n0_ := md_ (below_step HB.out hb); have hv5 := md_ hr; have n1_ := md_ (hv3.out.below hb); clear HB hb hr hv3; have HB := n0_; have hv3 := n1_; clear n0_ n1_)
  | (go_at_call 91; (with_reducible refine (CC.out _ _ _ hv3.out hv5.out).mono ?_); rintro e w' ⟨rfl, hb⟩; replace HB := bt_ HB hb; clear hb))
 go_ret
 exact ⟨by first | rfl | rw [hres], HB.out⟩
end Go.Proofs.YtneepokiioefgaaGreatDoor.Dec
set_option maxHeartbeats 32000000
namespace Go.Flt
def nearN (m : Nat) (e k : Int) : Nat :=
 if rhs e k < 2 * (lhs m e k % rhs e k) ∨ (2 * (lhs m e k % rhs e k) = rhs e k ∧ lhs m e k / rhs e k % 2 = 1) then lhs m e k / rhs e k + 1 else lhs m e k / rhs e k
end Go.Flt
namespace Go.Proofs.YtneepokiioefgaaGreatDoor.Dec
open Go.RowKit Go.Flt Go.Proofs.YtneepokiioefgaaGreatDoor.Pure YtneepokiioefgaaGreatDoorW.PrintWords YtneepokiioefgaaGreatDoorW.PrintLast YtneepokiioefgaaGreatDoorW.PrintMore
attribute [local go_sem] max2_int min2_int max_two min_two max_three min_three max_four min_four
theorem head_word {w : World} {A : Option Addr} {c n L : Nat} (h : Nm w (.slice A L c) n) (hL : (Num.wordsN n).length = L) (h0 : 0 < L) : ∃ ad, A = some ad ∧ w.cell? ad = some (.int .u32 (((n % 4294967296 : Nat) : Int))) := by
 obtain ⟨_, _, hC⟩ := Kd.V_reads' h
 obtain ⟨ad, rfl, _⟩ := Kd.at_int hC 0 (by omega) (by omega)
 have hz := Kd.foot_int hC 0 (by omega) (by omega)
 have hx : rd (Num.wordsN n) 0 = ((n % 4294967296 : Nat) : Int) := by
  rcases Nat.eq_zero_or_pos n with z | z
  ·subst z
   rw [Num.wordsN_zero] at hL
   exact absurd hL (by simp; omega)
  ·rw [Num.wordsN_pos (by omega)]
   rfl
 rw [hx] at hz
 rw [show ad.add (0 : Int).toNat = ad from rfl] at hz
 exact ⟨ad, rfl, hz⟩
theorem par_word (n : Nat) : bits .and .u32 (((n % 4294967296 : Nat) : Int)) 1 = ((n % 2 : Nat) : Int) := by
 rw [show (1 : Int) = ((1 : Nat) : Int) from rfl, u32_and_nat _ _ (Nat.mod_lt _ (by decide)) (by decide), Nat.and_one_is_mod]
 omega
set_option maxRecDepth 100000 in
theorem d_near (w : World) {v : Value} {m : Nat} (hv : Nm w v m) (hm : m < 2 ^ 53) (e n x : Int) (he : -1074 ≤ e) (he2 : e ≤ 971) (hk : -450 ≤ x - n) (hk2 : x - n ≤ 450) (hx1 : -1000 ≤ x) (hx2 : x ≤ 1000) :
  Calls Tryz.prog 64 #[v, .int .i64 e, .int .i64 n, .int .i64 x] w fun y w' => y = .returned (.string ⟨(Num.textN (nearN m e (x - n))).toArray⟩) ∧ Below w.heap.size w w' := by
 obtain ⟨k, hkk⟩ : ∃ z, x - n = z := ⟨_, rfl⟩
 have hnx : n - x = -k := by omega
 obtain ⟨nk, hnk⟩ : ∃ z, -k = z := ⟨_, rfl⟩
 rw [hnk] at hnx
 obtain ⟨ne, hne⟩ : ∃ z, -e = z := ⟨_, rfl⟩
 rw [hkk] at hk hk2 ⊢
 have T1 := md_ (fun w => d_ten w nk (by omega))
 have T2 := md_ (fun w => d_ten w k (by omega))
 have b1 := ten_lt nk.toNat
 have b2 := ten_lt k.toNat
 have c1 := two_lt e.toNat
 have c2 := two_lt ne.toNat
 have fm : Fit m := fit_lt hm (by omega)
 have d1 := mul_lt_pow hm b1
 have d2 := mul_lt_pow d1 c1
 have d3 := mul_lt_pow b2 c2
 have hL : m * 10 ^ nk.toNat * 2 ^ e.toNat = lhs m e k := by unfold lhs; rw [hnk]
 have hR : 10 ^ k.toNat * 2 ^ ne.toNat = rhs e k := by unfold rhs; rw [hne]
 have X := md_ (fun (w : World) (v u : Value) (h : Nm w v m) (g : Nm w u (10 ^ nk.toNat)) => d_times w h g fm (fit_lt b1 (by omega)) (fit_lt d1 (by omega)))
 have S1 := md_ (fun (w : World) (v : Value) (h : Nm w v (m * 10 ^ nk.toNat)) => d_shifted w h (fit_lt d1 (by omega)) e.toNat (by omega) (fit_lt d2 (by omega)))
 have S2 := md_ (fun (w : World) (v : Value) (h : Nm w v (10 ^ k.toNat)) => d_shifted w h (fit_lt b2 (by omega)) ne.toNat (by omega) (fit_lt d3 (by omega)))
 obtain ⟨me, hme⟩ : ∃ z : Int, max e 0 = z := ⟨_, rfl⟩
 obtain ⟨mn, hmn⟩ : ∃ z : Int, max ne 0 = z := ⟨_, rfl⟩
 have hme' : ((e.toNat : Nat) : Int) = me := by omega
 have hmn' : ((ne.toNat : Nat) : Int) = mn := by omega
 have hme2 : (if e < 0 then 0 else e) = me := by rw [← hme]; split <;> omega
 have hmn2 : (if ne < 0 then 0 else ne) = mn := by rw [← hmn]; split <;> omega
 rw [hme'] at S1
 rw [hmn'] at S2
 rw [hL] at d2 S1
 rw [hR] at d3 S2
 have hpos : 0 < rhs e k := Nat.mul_pos (Nat.pow_pos (by decide)) (Nat.two_pow_pos _)
 obtain ⟨p1, hp1⟩ : ∃ z, 10 ^ nk.toNat = z := ⟨_, rfl⟩
 obtain ⟨p2, hp2⟩ : ∃ z, 10 ^ k.toNat = z := ⟨_, rfl⟩
 rw [hp1] at T1 X S1
 rw [hp2] at T2 S2
 obtain ⟨L, hLL⟩ : ∃ z, lhs m e k = z := ⟨_, rfl⟩
 obtain ⟨R, hRR⟩ : ∃ z, rhs e k = z := ⟨_, rfl⟩
 have hN : nearN m e k = if R < 2 * (L % R) ∨ (2 * (L % R) = R ∧ L / R % 2 = 1) then L / R + 1 else L / R := by unfold nearN; rw [hLL, hRR]
 rw [hLL] at d2 S1
 rw [hRR] at d3 S2 hpos
 have D := md_ (fun (w : World) (v u : Value) (h : Nm w v L) (g : Nm w u R) => n_Divide h g (fit_lt d2 (by omega)) (fit_lt d3 (by omega)) (Nat.ne_of_gt hpos))
 obtain ⟨Q, hQ⟩ : ∃ z, L / R = z := ⟨_, rfl⟩
 obtain ⟨r, hr⟩ : ∃ z, L % R = z := ⟨_, rfl⟩
 have hrl : r < R := by rw [← hr]; exact Nat.mod_lt _ hpos
 have hql : Q ≤ L := by rw [← hQ]; exact Nat.div_le_self _ _
 rw [hQ, hr] at D hN
 have fq : Fit Q := fit_le (fit_lt d2 (by omega)) hql
 have fr : Fit r := fit_le (fit_lt d3 (by omega)) (by omega)
 have r2 : r * 2 ^ 1 < 2 ^ (4 * k.toNat + 1 + (ne.toNat + 1) + 1) := by rw [Nat.pow_succ _ (_ + _)]; omega
 have q1 : Q + 1 < 2 ^ (53 + (4 * nk.toNat + 1) + (e.toNat + 1) + 1) := by
  have := Nat.two_pow_pos (53 + (4 * nk.toNat + 1) + (e.toNat + 1))
  rw [Nat.pow_succ]; omega
 have fr2 : Fit (r * 2 ^ 1) := fit_lt r2 (by omega)
 have fR : Fit R := fit_lt d3 (by omega)
 have fq1 : Fit (Q + 1) := fit_lt q1 (by omega)
 have S3 : Aside0 (∀ w v, Nm w v r → Calls Tryz.prog 88 #[v, .int .i64 1] w fun e w' => ∃ z, e = .returned z ∧ Nm w' z (r * 2 ^ 1) ∧ Below w.heap.size w w') := ⟨fun w v h => d_shifted w h fr 1 (by omega) fr2⟩
 have CC := md_ (fun (w : World) (v u : Value) (h : Nm w v (r * 2 ^ 1)) (g : Nm w u R) => n_Compare h g fr2 fR)
 have AA := md_ (fun (w : World) (v u : Value) (h : Nm w v Q) (g : Nm w u 1) => n_Add h g fq (fit_lt (b := 1) (by decide) (by omega)))
 obtain ⟨cc, hcc⟩ : ∃ z, Num.cmpN (r * 2 ^ 1) R = z := ⟨_, rfl⟩
 have hcc3 : (R < 2 * r ∧ cc = 1) ∨ (2 * r = R ∧ cc = 0) ∨ (2 * r < R ∧ cc = -1) := by
  rw [← hcc]
  unfold Num.cmpN
  rw [Nat.pow_one]
  split
  ·omega
  ·split <;> omega
 rw [hcc] at CC
 obtain ⟨m1, hm1⟩ : ∃ z, m * p1 = z := ⟨_, rfl⟩
 rw [hm1] at X S1
 have w1 : wrap64 (n - x) = nk := by rw [hnx, i64_id (by omega) (by omega)]
 have w2 : IntKind.i64.wrap (n - x) = nk := (i64_w _).trans w1
 have w5 : wrap64 (x - n) = k := by rw [hkk, i64_id (by omega) (by omega)]
 have w6 : IntKind.i64.wrap (x - n) = k := (i64_w _).trans w5
 have w3 : wrap64 (-e) = ne := by rw [hne, i64_id (by omega) (by omega)]
 have w4 : IntKind.i64.wrap (-e) = ne := (i64_w _).trans w3
 have HB := md_ (Below.refl w.heap.size w)
 have hv0 := md_ hv
 obtain ⟨LQ, hLQ⟩ : ∃ z, (Num.wordsN Q).length = z := ⟨_, rfl⟩
 have HQL : Aside0 ((Num.wordsN Q).length = LQ) := ⟨hLQ⟩
 have TX0 := md_ (fun (w : World) (v : Value) (h : Nm w v Q) => n_Text h fq)
 have TX1 := md_ (fun (w : World) (v : Value) (h : Nm w v (Q + 1)) => n_Text h fq1)
 have hup : (R < 2 * r ∨ (2 * r = R ∧ Q % 2 = 1)) → nearN m e k = Q + 1 := fun h => by rw [hN, if_pos h]
 have hno : ¬ (R < 2 * r ∨ (2 * r = R ∧ Q % 2 = 1)) → nearN m e k = Q := fun h => by rw [hN, if_neg h]
 clear hv hm he he2 hk hk2 hnk hne b1 b2 c1 c2 fm d1 d2 d3 hL hR hme' hmn' hp1 hp2 hLL hRR hcc hm1 hN hQ hr hql fq fr r2 q1 fr2 fR fq1 hpos hrl hkk hnx hx1 hx2
 go_enter Tryz.func64, Tryz.ntmps64
 go_upto_region 4 with (first | (go_at_call 90; (with_reducible refine (T1.out _).mono ?_); rintro e w' ⟨r1, rfl, hr, hb⟩; have n0_ := md_ (below_step HB.out hb); have hv1 := md_ hr; have k0_ := md_ (hv0.out.below hb); clear HB hb hr hv0; have HB := n0_; have hv0 := k0_; clear n0_ k0_) | (go_at_call 89; (with_reducible refine (X.out _ _ _ hv0.out hv1.out).mono ?_); rintro e w' ⟨r2, rfl, hr, hb⟩; have n0_ := md_ (below_step HB.out hb); have hv2 := md_ hr; clear HB hb hr ; have HB := n0_; clear n0_) | (go_at_call 88; (with_reducible refine (S1.out _ _ hv2.out).mono ?_); rintro e w' ⟨r3, rfl, hr, hb⟩; have n0_ := md_ (below_step HB.out hb); have hv3 := md_ hr; clear HB hb hr ; have HB := n0_; clear n0_) | (go_at_call 90; (with_reducible refine (T2.out _).mono ?_); rintro e w' ⟨r4, rfl, hr, hb⟩; have n0_ := md_ (below_step HB.out hb); have hv4 := md_ hr; have k0_ := md_ (hv3.out.below hb); clear HB hb hr hv3; have HB := n0_; have hv3 := k0_; clear n0_ k0_) | (go_at_call 88; (with_reducible refine (S2.out _ _ hv4.out).mono ?_); rintro e w' ⟨r5, rfl, hr, hb⟩; have n0_ := md_ (below_step HB.out hb); have hv5 := md_ hr; have k0_ := md_ (hv3.out.below hb); clear HB hb hr hv3; have HB := n0_; have hv3 := k0_; clear n0_ k0_) | (go_at_call 92; (with_reducible refine (D.out _ _ _ hv3.out hv5.out).mono ?_); rintro e w' ⟨rq, rr, rfl, hr, hr2, hb⟩; have n0_ := md_ (below_step HB.out hb); have hrr := md_ hr2; obtain ⟨Aq, cq, haq, -, -, -⟩ := hr.open; rw [HQL.out] at haq; subst haq; have hq := md_ hr; clear hr2; have k0_ := md_ (hv5.out.below hb); clear HB hb hr hv5; have HB := n0_; have hv5 := k0_; clear n0_ k0_))
 by_cases hQ0 : Q = 0
 ·have hq2 : Q % 2 = 0 := by rw [hQ0]
  have : LQ = 0 := by rw [← hLQ, hQ0, Num.wordsN_zero]; rfl
  subst this
  clear hQ0 hLQ
  go_upto_region 6 with (first | (go_at_call 88; (with_reducible refine (S3.out _ _ hrr.out).mono ?_); rintro e w' ⟨r6, rfl, hr, hb⟩; have n0_ := md_ (below_step HB.out hb); have hv6 := md_ hr; have k0_ := md_ (hv5.out.below hb); have k1_ := md_ (hq.out.below hb); clear HB hb hr hv5 hq; have HB := n0_; have hv5 := k0_; have hq := k1_; clear n0_ k0_ k1_) | (go_at_call 91; (with_reducible refine (CC.out _ _ _ hv6.out hv5.out).mono ?_); rintro e w' ⟨rfl, hb⟩; have hr := 0; have n0_ := md_ (below_step HB.out hb); have k0_ := md_ (hq.out.below hb); clear HB hb hr hq; have HB := n0_; have hq := k0_; clear n0_ k0_))
  rcases hcc3 with ⟨hc1, hc2⟩ | ⟨hc1, hc2⟩ | ⟨hc1, hc2⟩
  ·have hb := md_ (hup (by omega))
   subst hc2
   clear hup hno hc1 hq2
   go_wp2_with (first | ((with_reducible refine gate_dst (N := 63) rfl ?_); refine Kd.R_lit (Kd.int .u32) _ 119 ?hg (N := 63) ?hd (xs := ([1] : List Int)) (inner := [.int .u32 1]) (ok := fun _ => True) (okp := fun _ => True) ?hr ?hp (fun _ hk => hk) trivial (Below.refl _ _) (Nat.le_refl _) (by simp) ?_; (case hd => rfl); (case hg => rfl); (case hr => first | (go_simp; done) | (go_simp; rfl)); (case hp => exact (Reps.one (show Kd.M (Kd.int .u32) _ _ _ 1 [.int .u32 1] from rfl) (Reps.none _ _))); intro v1 w1 ho hb hg_ hnew_; clear hg_ hnew_; have h1 := md_ (show Nm w1 v1 1 from Nm.of_R (by rw [words_one]; exact ho)); have n0_ := md_ (below_step HB.out hb); clear ho; have hr := 0; have k0_ := md_ (hq.out.below hb); clear HB hb hr hq; have HB := n0_; have hq := k0_; clear n0_ k0_) | (go_at_call 93; (with_reducible refine (AA.out _ _ _ hq.out h1.out).mono ?_); rintro e w' ⟨r7, rfl, hr, hb⟩; have n0_ := md_ (below_step HB.out hb); have hq1 := md_ hr; clear HB hb hr ; have HB := n0_; clear n0_) | (go_at_call 94; (with_reducible refine (TX1.out _ _ hq1.out).mono ?_); rintro e w' ⟨rfl, hb⟩; have hr := 0; replace HB := bt_ HB hb; clear hb hr))
   go_ret
   exact ⟨by rw [hb.out]; rfl, HB.out⟩
  ·have hb := md_ (hno (by omega))
   subst hc2
   clear hup hno hc1 hq2
   go_wp2_with (first | (go_at_call 94; (with_reducible refine (TX0.out _ _ hq.out).mono ?_); rintro e w' ⟨rfl, hb⟩; have hr := 0; replace HB := bt_ HB hb; clear hb hr))
   go_ret
   exact ⟨by rw [hb.out]; rfl, HB.out⟩
  ·have hb := md_ (hno (by omega))
   subst hc2
   clear hup hno hc1 hq2
   go_wp2_with (first | (go_at_call 94; (with_reducible refine (TX0.out _ _ hq.out).mono ?_); rintro e w' ⟨rfl, hb⟩; have hr := 0; replace HB := bt_ HB hb; clear hb hr))
   go_ret
   exact ⟨by rw [hb.out]; rfl, HB.out⟩
 have hlen : 0 < LQ := by
  rw [← hLQ]
  rcases Nat.eq_zero_or_pos (Num.wordsN Q).length with z | z
  ·exfalso
   apply hQ0
   rw [← Num.wordsN_val Q, List.eq_nil_of_length_eq_zero z]
   rfl
  ·exact z
 have g1 := decide_eq_true (show (0 : Int) < (LQ : Int) by omega)
 have g2 : (0 : Int) < (LQ : Int) := by omega
 obtain ⟨ad, had, hz⟩ := head_word hq.out HQL.out hlen
 subst had
 obtain ⟨y, hy⟩ : ∃ z : Int, ((Q % 4294967296 : Nat) : Int) = z := ⟨_, rfl⟩
 have hpar := par_word Q
 rw [hy] at hpar hz
 clear hlen hLQ hQ0 hy
 by_cases hq2 : Q % 2 = 1
 ·rw [hq2] at hpar
  have hpar2 : bits .and .u32 y 1 = 1 := hpar
  clear hpar
  go_upto_region 6 with (first | (go_at_call 88; (with_reducible refine (S3.out _ _ hrr.out).mono ?_); rintro e w' ⟨r6, rfl, hr, hb⟩; have n0_ := md_ (below_step HB.out hb); have hv6 := md_ hr; have k0_ := md_ (hv5.out.below hb); have k1_ := md_ (hq.out.below hb); clear HB hb hr hv5 hq; have HB := n0_; have hv5 := k0_; have hq := k1_; clear n0_ k0_ k1_) | (go_at_call 91; (with_reducible refine (CC.out _ _ _ hv6.out hv5.out).mono ?_); rintro e w' ⟨rfl, hb⟩; have hr := 0; have n0_ := md_ (below_step HB.out hb); have k0_ := md_ (hq.out.below hb); clear HB hb hr hq; have HB := n0_; have hq := k0_; clear n0_ k0_))
  rcases hcc3 with ⟨hc1, hc2⟩ | ⟨hc1, hc2⟩ | ⟨hc1, hc2⟩
  ·have hb := md_ (hup (by omega))
   subst hc2
   clear hup hno hc1 hq2
   go_wp2_with (first | ((with_reducible refine gate_dst (N := 63) rfl ?_); refine Kd.R_lit (Kd.int .u32) _ 119 ?hg (N := 63) ?hd (xs := ([1] : List Int)) (inner := [.int .u32 1]) (ok := fun _ => True) (okp := fun _ => True) ?hr ?hp (fun _ hk => hk) trivial (Below.refl _ _) (Nat.le_refl _) (by simp) ?_; (case hd => rfl); (case hg => rfl); (case hr => first | (go_simp; done) | (go_simp; rfl)); (case hp => exact (Reps.one (show Kd.M (Kd.int .u32) _ _ _ 1 [.int .u32 1] from rfl) (Reps.none _ _))); intro v1 w1 ho hb hg_ hnew_; clear hg_ hnew_; have h1 := md_ (show Nm w1 v1 1 from Nm.of_R (by rw [words_one]; exact ho)); have n0_ := md_ (below_step HB.out hb); clear ho; have hr := 0; have k0_ := md_ (hq.out.below hb); clear HB hb hr hq; have HB := n0_; have hq := k0_; clear n0_ k0_) | (go_at_call 93; (with_reducible refine (AA.out _ _ _ hq.out h1.out).mono ?_); rintro e w' ⟨r7, rfl, hr, hb⟩; have n0_ := md_ (below_step HB.out hb); have hq1 := md_ hr; clear HB hb hr ; have HB := n0_; clear n0_) | (go_at_call 94; (with_reducible refine (TX1.out _ _ hq1.out).mono ?_); rintro e w' ⟨rfl, hb⟩; have hr := 0; replace HB := bt_ HB hb; clear hb hr))
   go_ret
   exact ⟨by rw [hb.out]; rfl, HB.out⟩
  ·have hb := md_ (hup (by omega))
   subst hc2
   clear hup hno hc1 hq2
   go_wp2_with (first | ((with_reducible refine gate_dst (N := 63) rfl ?_); refine Kd.R_lit (Kd.int .u32) _ 119 ?hg (N := 63) ?hd (xs := ([1] : List Int)) (inner := [.int .u32 1]) (ok := fun _ => True) (okp := fun _ => True) ?hr ?hp (fun _ hk => hk) trivial (Below.refl _ _) (Nat.le_refl _) (by simp) ?_; (case hd => rfl); (case hg => rfl); (case hr => first | (go_simp; done) | (go_simp; rfl)); (case hp => exact (Reps.one (show Kd.M (Kd.int .u32) _ _ _ 1 [.int .u32 1] from rfl) (Reps.none _ _))); intro v1 w1 ho hb hg_ hnew_; clear hg_ hnew_; have h1 := md_ (show Nm w1 v1 1 from Nm.of_R (by rw [words_one]; exact ho)); have n0_ := md_ (below_step HB.out hb); clear ho; have hr := 0; have k0_ := md_ (hq.out.below hb); clear HB hb hr hq; have HB := n0_; have hq := k0_; clear n0_ k0_) | (go_at_call 93; (with_reducible refine (AA.out _ _ _ hq.out h1.out).mono ?_); rintro e w' ⟨r7, rfl, hr, hb⟩; have n0_ := md_ (below_step HB.out hb); have hq1 := md_ hr; clear HB hb hr ; have HB := n0_; clear n0_) | (go_at_call 94; (with_reducible refine (TX1.out _ _ hq1.out).mono ?_); rintro e w' ⟨rfl, hb⟩; have hr := 0; replace HB := bt_ HB hb; clear hb hr))
   go_ret
   exact ⟨by rw [hb.out]; rfl, HB.out⟩
  ·have hb := md_ (hno (by omega))
   subst hc2
   clear hup hno hc1 hq2
   go_wp2_with (first | (go_at_call 94; (with_reducible refine (TX0.out _ _ hq.out).mono ?_); rintro e w' ⟨rfl, hb⟩; have hr := 0; replace HB := bt_ HB hb; clear hb hr))
   go_ret
   exact ⟨by rw [hb.out]; rfl, HB.out⟩
 ·replace hq2 : Q % 2 = 0 := by omega
  rw [hq2] at hpar
  have hpar2 : bits .and .u32 y 1 = 0 := hpar
  clear hpar
  go_upto_region 6 with (first | (go_at_call 88; (with_reducible refine (S3.out _ _ hrr.out).mono ?_); rintro e w' ⟨r6, rfl, hr, hb⟩; have n0_ := md_ (below_step HB.out hb); have hv6 := md_ hr; have k0_ := md_ (hv5.out.below hb); have k1_ := md_ (hq.out.below hb); clear HB hb hr hv5 hq; have HB := n0_; have hv5 := k0_; have hq := k1_; clear n0_ k0_ k1_) | (go_at_call 91; (with_reducible refine (CC.out _ _ _ hv6.out hv5.out).mono ?_); rintro e w' ⟨rfl, hb⟩; have hr := 0; have n0_ := md_ (below_step HB.out hb); have k0_ := md_ (hq.out.below hb); clear HB hb hr hq; have HB := n0_; have hq := k0_; clear n0_ k0_))
  rcases hcc3 with ⟨hc1, hc2⟩ | ⟨hc1, hc2⟩ | ⟨hc1, hc2⟩
  ·have hb := md_ (hup (by omega))
   subst hc2
   clear hup hno hc1 hq2
   go_wp2_with (first | ((with_reducible refine gate_dst (N := 63) rfl ?_); refine Kd.R_lit (Kd.int .u32) _ 119 ?hg (N := 63) ?hd (xs := ([1] : List Int)) (inner := [.int .u32 1]) (ok := fun _ => True) (okp := fun _ => True) ?hr ?hp (fun _ hk => hk) trivial (Below.refl _ _) (Nat.le_refl _) (by simp) ?_; (case hd => rfl); (case hg => rfl); (case hr => first | (go_simp; done) | (go_simp; rfl)); (case hp => exact (Reps.one (show Kd.M (Kd.int .u32) _ _ _ 1 [.int .u32 1] from rfl) (Reps.none _ _))); intro v1 w1 ho hb hg_ hnew_; clear hg_ hnew_; have h1 := md_ (show Nm w1 v1 1 from Nm.of_R (by rw [words_one]; exact ho)); have n0_ := md_ (below_step HB.out hb); clear ho; have hr := 0; have k0_ := md_ (hq.out.below hb); clear HB hb hr hq; have HB := n0_; have hq := k0_; clear n0_ k0_) | (go_at_call 93; (with_reducible refine (AA.out _ _ _ hq.out h1.out).mono ?_); rintro e w' ⟨r7, rfl, hr, hb⟩; have n0_ := md_ (below_step HB.out hb); have hq1 := md_ hr; clear HB hb hr ; have HB := n0_; clear n0_) | (go_at_call 94; (with_reducible refine (TX1.out _ _ hq1.out).mono ?_); rintro e w' ⟨rfl, hb⟩; have hr := 0; replace HB := bt_ HB hb; clear hb hr))
   go_ret
   exact ⟨by rw [hb.out]; rfl, HB.out⟩
  ·have hb := md_ (hno (by omega))
   subst hc2
   clear hup hno hc1 hq2
   go_wp2_with (first | (go_at_call 94; (with_reducible refine (TX0.out _ _ hq.out).mono ?_); rintro e w' ⟨rfl, hb⟩; have hr := 0; replace HB := bt_ HB hb; clear hb hr))
   go_ret
   exact ⟨by rw [hb.out]; rfl, HB.out⟩
  ·have hb := md_ (hno (by omega))
   subst hc2
   clear hup hno hc1 hq2
   go_wp2_with (first | (go_at_call 94; (with_reducible refine (TX0.out _ _ hq.out).mono ?_); rintro e w' ⟨rfl, hb⟩; have hr := 0; replace HB := bt_ HB hb; clear hb hr))
   go_ret
   exact ⟨by rw [hb.out]; rfl, HB.out⟩
end Go.Proofs.YtneepokiioefgaaGreatDoor.Dec
set_option maxHeartbeats 32000000
namespace Go.Flt
open Go.Num
theorem two_ten (k : Nat) : 2 ^ (3 * k) ≤ 10 ^ k := by
 rw [Nat.pow_mul]
 exact Nat.pow_le_pow_left (by decide) k
end Go.Flt
set_option maxHeartbeats 32000000
namespace Go.Flt
open Go.Proofs.YtneepokiioefgaaGreatDoor
theorem rch_pred {m : Nat} {e k : Int} (h : rch m e k = true) : rch m e (k - 1) = true := by
 unfold rch at *
 rw [decide_eq_true_iff] at *
 unfold lhs rhs at *
 rcases Int.lt_or_le 0 k with c | c
 ·obtain ⟨j, hj⟩ : ∃ j, k.toNat = j + 1 := ⟨k.toNat - 1, by omega⟩
  rw [show (k - 1).toNat = j by omega, show (-(k - 1)).toNat = (-k).toNat by omega]
  rw [hj, Nat.pow_succ, Nat.mul_right_comm] at h
  have h0 : 10 ^ j * 2 ^ (-e).toNat * 1 ≤ 10 ^ j * 2 ^ (-e).toNat * 10 := Nat.mul_le_mul_left _ (by decide)
  omega
 ·rw [show (k - 1).toNat = 0 by omega, show (-(k - 1)).toNat = (-k).toNat + 1 by omega, Nat.pow_succ, ← Nat.mul_assoc, Nat.mul_right_comm _ 10]
  rw [show k.toNat = 0 by omega] at h
  have h0 : m * 10 ^ (-k).toNat * 2 ^ e.toNat * 1 ≤ m * 10 ^ (-k).toNat * 2 ^ e.toNat * 10 := Nat.mul_le_mul_left _ (by decide)
  omega
theorem rch_le {m : Nat} {e j k : Int} (h : rch m e k = true) (hj : j ≤ k) : rch m e j = true := by
 obtain ⟨n, hn⟩ : ∃ n : Nat, k = j + n := ⟨(k - j).toNat, by omega⟩
 subst hn
 clear hj
 induction n with
 | zero => simpa using h
 | succ n ih =>
  apply ih
  have := rch_pred h
  rw [show j + ((n + 1 : Nat) : Int) - 1 = j + (n : Int) by omega] at this
  exact this
def Dex (m : Nat) (e D : Int) : Prop := rch m e (D - 1) = true ∧ rch m e D = false
theorem Dex.lt {m : Nat} {e D x : Int} (h : Dex m e D) (k : rch m e x = true) : x < D := by
 rcases Int.lt_or_le x D with c | c
 ·exact c
 ·have := rch_le k c
  rw [h.2] at this
  cases this
theorem Dex.ge {m : Nat} {e D x : Int} (h : Dex m e D) (k : rch m e x = false) : D ≤ x := by
 rcases Int.lt_or_le x D with c | c
 ·have := rch_le h.1 (show x ≤ D - 1 by omega)
  rw [k] at this
  cases this
 ·exact c
theorem rch_low {m : Nat} {e : Int} (hm : 0 < m) (he : -1074 ≤ e) : rch m e (-336) = true := by
 unfold rch lhs rhs
 rw [decide_eq_true_iff, show (-336 : Int).toNat = 0 from rfl, Nat.pow_zero, Nat.one_mul, show (-(-336) : Int).toNat = 336 from rfl]
 obtain ⟨K, hK⟩ : ∃ K, K = 336 := ⟨_, rfl⟩
 obtain ⟨t, ht⟩ : ∃ t, t = 12 := ⟨_, rfl⟩
 rw [← hK]
 have h2 : 2 ^ (-e).toNat ≤ 10 ^ K := by
  refine Nat.le_trans (Nat.pow_le_pow_right (by decide) (show (-e).toNat ≤ 93 * t by omega)) ?_
  rw [Nat.pow_mul, show K = 28 * t by omega, Nat.pow_mul]
  exact Nat.pow_le_pow_left (by decide) t
 have h3 : 1 * 10 ^ K ≤ m * 10 ^ K := Nat.mul_le_mul_right _ hm
 have h4 : m * 10 ^ K * 1 ≤ m * 10 ^ K * 2 ^ e.toNat := Nat.mul_le_mul_left _ (Nat.two_pow_pos _)
 omega
theorem rch_high {m : Nat} {e : Int} (hm : m < 2 ^ 53) (he : e ≤ 971) : rch m e 342 = false := by
 unfold rch lhs rhs
 rw [decide_eq_false_iff_not, show (342 : Int).toNat = 342 from rfl, show (-342 : Int).toNat = 0 from rfl, Nat.pow_zero, Nat.mul_one]
 obtain ⟨K, hK⟩ : ∃ K, K = 342 := ⟨_, rfl⟩
 rw [← hK]
 have h1 : m * 2 ^ e.toNat < 2 ^ 53 * 2 ^ e.toNat := Nat.mul_lt_mul_of_pos_right hm (Nat.two_pow_pos _)
 rw [← Nat.pow_add] at h1
 have h2 : 2 ^ (53 + e.toNat) ≤ 2 ^ (3 * K) := Nat.pow_le_pow_right (by decide) (by omega)
 have h3 := two_ten K
 have h4 : 10 ^ K * 1 ≤ 10 ^ K * 2 ^ (-e).toNat := Nat.mul_le_mul_left _ (Nat.two_pow_pos _)
 omega
theorem Dex.some {m : Nat} {e : Int} (hm : 0 < m) (hm2 : m < 2 ^ 53) (he : -1074 ≤ e) (he2 : e ≤ 971) : ∃ D, Dex m e D ∧ -335 ≤ D ∧ D ≤ 342 := by
 have key : ∀ n : Nat, rch m e (-336 + n) = false → ∃ D, Dex m e D ∧ -335 ≤ D ∧ D ≤ -336 + n := by
  intro n
  induction n with
  | zero =>
   intro h
   have := rch_low hm he
   simp at h
   rw [h] at this
   cases this
  | succ n ih =>
   intro h
   cases c : rch m e (-336 + n) with
   | true =>
    refine ⟨-336 + ((n + 1 : Nat) : Int), ⟨?_, h⟩, by omega, by omega⟩
    rw [show -336 + ((n + 1 : Nat) : Int) - 1 = -336 + (n : Int) by omega]
    exact c
   | false =>
    obtain ⟨D, hD, h1, h2⟩ := ih c
    exact ⟨D, hD, h1, by omega⟩
 obtain ⟨D, hD, h1, h2⟩ := key 678 (rch_high hm2 he2)
 exact ⟨D, hD, h1, by omega⟩
theorem Dex.bound {m : Nat} {e D : Int} (h : Dex m e D) (hm : 0 < m) (hm2 : m < 2 ^ 53) (he : -1074 ≤ e) (he2 : e ≤ 971) : -335 ≤ D ∧ D ≤ 342 := by
 have h1 := h.lt (rch_low hm he)
 have h2 := h.ge (rch_high hm2 he2)
 omega
def repT (m : Nat) (e n D : Int) : List UInt8 := (Num.textN (nearN m e (D - n))).take n.toNat
def repX (m : Nat) (e n D : Int) : Int := if n < (Num.textN (nearN m e (D - n))).length then D + 1 else D
end Go.Flt
set_option maxHeartbeats 32000000
namespace Go.Proofs.YtneepokiioefgaaGreatDoor.Dec
open Go.RowKit Go.Flt PDec Go.Proofs.YtneepokiioefgaaGreatDoor.Pure YtneepokiioefgaaGreatDoorW.PrintWords YtneepokiioefgaaGreatDoorW.PrintLast YtneepokiioefgaaGreatDoorW.PrintMore
theorem abs_and (a : Nat) (ha : a < 18446744073709551616) : bits .andNot .u64 (a : Int) 9223372036854775808 = ((a % 9223372036854775808 : Nat) : Int) := by
 rw [show (9223372036854775808 : Int) = ((9223372036854775808 : Nat) : Int) from rfl, u64_andNot_nat _ _ ha (by decide), show (18446744073709551615 - 9223372036854775808 : Nat) = 2 ^ 63 - 1 from rfl, Nat.and_two_pow_sub_one_eq_mod]
theorem res_four {fn : Func} {t u v x : Tmp} (h : fn.results = #[.tmp t, .tmp u, .tmp v, .tmp x]) (tmps : Array Value) (P : Program) (w : World) :
  (results fn tmps).run P w = .ok (.tuple #[tmps.getD t undef, tmps.getD u undef, tmps.getD v undef, tmps.getD x undef]) w := by
 simp [results, h]
theorem two_V (W : World) (lo hi : Int) : Kd.V (Kd.int .u32) 119 (W.alloc (.cells #[.int .u32 lo, .int .u32 hi] 119)) 0 (fun _ => True) (.slice (some ⟨W.heap.size, 0, none⟩) 2 2) [lo, hi] := by
 have h : Kd.R (Kd.int .u32) 119 (W.alloc (.cells #[.int .u32 lo, .int .u32 hi] 119)) W.heap.size (fun _ => True) (.slice (some ⟨W.heap.size, 0, none⟩) 2 2) [lo, hi] :=
  ⟨fun _ _ => trivial, [.int .u32 lo, .int .u32 hi], World.ownsRow_lit W _ 2 (Nat.le_refl _) (by simp [maxLen]) rfl, Reps.one (show Kd.M (Kd.int .u32) _ _ _ lo [.int .u32 lo] from rfl) (Reps.one (show Kd.M (Kd.int .u32) _ _ _ hi [.int .u32 hi] from rfl) (Reps.none _ _))⟩
 exact Kd.V_mono (Kd.V_map (Kd.R_V (base' := 0) h) (fun _ hf => hf)) (fun _ _ => trivial)
def fnan (a : Nat) : Bool := decide (9218868437227405312 < a % 9223372036854775808)
def finf (a : Nat) : Bool := decide (a % 9223372036854775808 = 9218868437227405312)
def ffin (a : Nat) : Bool := decide (a % 9223372036854775808 < 9218868437227405312)
theorem s_isNaN (w : World) (a : Nat) (ha : a < 18446744073709551616) : Calls Tryz.prog 65 #[.int .u64 (a : Int)] w fun e w' => e = .returned (.bool (fnan a)) ∧ Drawn0 w w' := by
 refine soft_isNaN.calls _ _ w ?_
 unfold soft_isNaN.f fnan
 rw [abs_and a ha]
 congr 1
 rw [decide_eq_decide]
 omega
theorem s_isInf (w : World) (a : Nat) (ha : a < 18446744073709551616) : Calls Tryz.prog 80 #[.int .u64 (a : Int)] w fun e w' => e = .returned (.bool (finf a)) ∧ Drawn0 w w' := by
 refine soft_isInf.calls _ _ w ?_
 unfold soft_isInf.f finf
 rw [abs_and a ha]
 congr 1
 rw [Bool.eq_iff_iff, beq_iff_eq, decide_eq_true_iff]
 omega
theorem ffin_iff (a : Nat) : ffin a = (!(fnan a) && !(finf a)) := by
 unfold ffin fnan finf
 rw [Bool.eq_iff_iff, Bool.and_eq_true, Bool.not_eq_true', Bool.not_eq_true', decide_eq_true_iff, decide_eq_false_iff_not, decide_eq_false_iff_not]
 omega
set_option maxRecDepth 100000 in
theorem s_Split_bad (w : World) (a : Nat) (ha : a < 18446744073709551616) (h : ffin a = false) : Calls Tryz.prog 60 #[.int .u64 (a : Int)] w fun e w' => e = .returned (.tuple #[.bool false, .slice none 0 0, .int .i64 0, .bool false]) ∧ Below w.heap.size w w' := by
 have HN := md_ (fun w => s_isNaN w a ha)
 have HI := md_ (fun w => s_isInf w a ha)
 rw [ffin_iff] at h
 obtain ⟨aa, haa⟩ : ∃ z : Int, (a : Int) = z := ⟨_, rfl⟩
 rw [haa] at HN HI ⊢
 have HB := md_ (Below.refl w.heap.size w)
 cases hn : fnan a with
 | true =>
  rw [hn] at HN
  clear hn h HI ha haa
  go_enter Tryz.func60, Tryz.ntmps60
  go_wp2_with (go_at_call 65; (with_reducible refine (HN.out _).mono ?_); rintro e w' ⟨rfl, ⟨nd, rfl⟩⟩)
  refine bodyPost_ret (res_four rfl _ _ _) rfl ?_
  exact ⟨rfl, by repeat (first | exact HB.out | apply pw_below_drewN)⟩
 | false =>
  have hi : finf a = true := by
   rw [hn] at h
   simpa using h
  rw [hn] at HN
  rw [hi] at HI
  clear hn hi h ha haa
  go_enter Tryz.func60, Tryz.ntmps60
  go_wp2_with (first | (go_at_call 65; (with_reducible refine (HN.out _).mono ?_); rintro e w' ⟨rfl, ⟨nd, rfl⟩⟩) | (go_at_call 80; (with_reducible refine (HI.out _).mono ?_); rintro e w' ⟨rfl, ⟨nd2, rfl⟩⟩))
  refine bodyPost_ret (res_four rfl _ _ _) rfl ?_
  exact ⟨rfl, by repeat (first | exact HB.out | apply pw_below_drewN)⟩
set_option maxRecDepth 100000 in
theorem s_Split_good (w : World) (a : Nat) (ha : a < 18446744073709551616) (h : ffin a = true) : Calls Tryz.prog 60 #[.int .u64 (a : Int)] w fun e w' => ∃ v, e = .returned (.tuple #[.bool (fneg a), v, .int .i64 (fpow a), .bool true]) ∧ Nm w' v (fmant a) ∧ Below w.heap.size w w' := by
 have hu102 := Tryz.underlying123
 have HN := md_ (fun w => s_isNaN w a ha)
 have HI := md_ (fun w => s_isInf w a ha)
 have HS := md_ (fun w => s_split w a ha)
 rw [ffin_iff, Bool.and_eq_true, Bool.not_eq_true', Bool.not_eq_true'] at h
 rw [h.1] at HN
 rw [h.2] at HI
 obtain ⟨aa, haa⟩ : ∃ z : Int, (a : Int) = z := ⟨_, rfl⟩
 rw [haa] at HN HI HS ⊢
 have HB := md_ (Below.refl w.heap.size w)
 obtain ⟨neg, hneg⟩ : ∃ z, fneg a = z := ⟨_, rfl⟩
 obtain ⟨m, hm⟩ : ∃ z : Int, ((fmant a : Nat) : Int) = z := ⟨_, rfl⟩
 obtain ⟨p, hp⟩ : ∃ z, fpow a = z := ⟨_, rfl⟩
 rw [hneg, hm, hp] at HS
 rw [hneg, hp]
 have hmb : 0 ≤ m ∧ m < 9007199254740992 := by
  have : fmant a < 9007199254740992 := by unfold fmant; split <;> omega
  omega
 obtain ⟨lo, hlo⟩ : ∃ z : Int, m % 4294967296 = z := ⟨_, rfl⟩
 obtain ⟨hi, hhi⟩ : ∃ z : Int, m / 4294967296 = z := ⟨_, rfl⟩
 have hhi2 : hi % 4294967296 = hi := by omega
 have HNorm : Aside0 (∀ w v, Kd.V (Kd.int .u32) 119 w 0 (fun _ => True) v [lo, hi] → Calls Tryz.prog 82 #[v] w fun e w' => ∃ r, e = .returned r ∧ Nm w' r (fmant a) ∧ Below w.heap.size w w') := ⟨fun w v hv => by
  obtain ⟨A, c, rfl⟩ := Kd.V_slice hv
  obtain ⟨_, h2, h3⟩ := Kd.V_reads' hv
  have := n_Norm (l := [lo, hi]) h3 h2 (by intro x hx; simp at hx; rcases hx with rfl | rfl <;> omega) (by simp)
  rw [show Num.valN [lo, hi] = fmant a by simp [Num.valN]; omega] at this
  exact this⟩
 clear h ha haa hmb hm hp hneg
 go_enter Tryz.func60, Tryz.ntmps60
 go_upto_region 4 with (first | (go_at_call 65; (with_reducible refine (HN.out _).mono ?_); rintro e w' ⟨rfl, ⟨nd, rfl⟩⟩) | (go_at_call 80; (with_reducible refine (HI.out _).mono ?_); rintro e w' ⟨rfl, ⟨nd2, rfl⟩⟩) | (go_at_call 81; (with_reducible refine (HS.out _).mono ?_); rintro e w' ⟨rfl, hb⟩; replace HB := md_ (below_step (by repeat (first | exact HB.out | apply pw_below_drewN)) hb); clear hb))
 obtain ⟨g, hg⟩ : ∃ g, w'.heap.size = g := ⟨_, rfl⟩
 generalize hW : w'.alloc (Obj.cells #[Value.bool neg, Value.int IntKind.u64 m, Value.int IntKind.i64 p] 123) = W1
 have BK := md_ (show W1.heap[g]? = some (.cells #[.bool neg, .int .u64 m, .int .i64 p] 123 (0, 0)) by rw [← hW, ← hg]; exact blk_new _ _)
 have n0_ := md_ (show Below w.heap.size w W1 by rw [← hW]; exact HB.out.alloc (below_size HB.out) _)
 clear HB
 have HB := n0_
 clear n0_ hW
 rw [hg]
 clear hg
 have z0 : W1.cell? ⟨g, 0, none⟩ = some (.bool neg) := (blk_cell BK.out 0).trans rfl
 have z1 : W1.cell? ⟨g, 1, none⟩ = some (.int .u64 m) := (blk_cell BK.out 1).trans rfl
 have z2 : W1.cell? ⟨g, 2, none⟩ = some (.int .i64 p) := (blk_cell BK.out 2).trans rfl
 have u1 : IntKind.u32.wrap m = lo := by rw [IntKind.wrap_u32]; exact hlo
 have u2 : IntKind.u32.wrap hi = hi := by rw [IntKind.wrap_u32]; exact hhi2
 go_region_held3 (fun w' => w'.cell? ⟨g, 0, none⟩ = some (.bool neg) ∧ w'.cell? ⟨g, 1, none⟩ = some (.int .u64 m) ∧ w'.cell? ⟨g, 2, none⟩ = some (.int .i64 p) ∧ Below w.heap.size w w')
  (((try go_split_ands); refine ⟨?_, ?_, ?_, ?_⟩ <;> first
   | assumption
   | exact HB.out
   | exact pw_cell_below hb_ (by assumption)
   | exact pw_cell_below (below_drew (Below.refl _ _)) (by assumption)
   | exact pw_cell_below (below_drew (below_alloc (Below.refl _ _) _)) (by assumption)
   | exact pw_cell_below (below_alloc (Below.refl _ _) _) (by assumption)
   | exact below_drew (by assumption)
   | exact below_drew HB.out
   | exact below_alloc HB.out _
   | exact below_drew (below_alloc HB.out _)
   | exact below_alloc (by assumption) _
   | exact below_drew (below_alloc (by assumption) _)
   | exact Below.trans (by assumption) (hb_.mono (Below.size (by assumption)))))
  (first
   | (go_at_call 82; go_split_ands; (refine (HNorm.out _ _ (Kd.V_below (two_V _ lo hi) (by repeat (first | exact Below.refl _ _ | apply below_drew)))).mono ?_); rintro e w2 ⟨r, rfl, hr, hb_⟩; have hr' := md_ hr; clear hr))
 (try go_split_ands)
 go_wp2
 refine bodyPost_ret (res_four rfl _ _ _) rfl ?_
 exact ⟨_, rfl, hr'.out, by assumption⟩
end Go.Proofs.YtneepokiioefgaaGreatDoor.Dec
set_option maxHeartbeats 32000000
namespace Go.Read
open Go.Proofs.YtneepokiioefgaaGreatDoor
def hasM (of l : List UInt8) : Bool := match l with | [] => false | c :: _ => of.contains c
def lead (of l : List UInt8) : Nat := match l with | [] => 0 | c :: _ => if of.contains c then c.toNat else 0
def after (of l : List UInt8) : List UInt8 := if hasM of l then l.tail else l
def isd (c : UInt8) : Bool := decide (48 ≤ c.toNat) && decide (c.toNat ≤ 57)
def past (l : List UInt8) : List UInt8 := l.dropWhile isd
def trim0 (l : List UInt8) : List UInt8 := l.dropWhile (· == 48)
end Go.Read
set_option maxHeartbeats 32000000
namespace Go.Proofs.YtneepokiioefgaaGreatDoor.Dec
open Go.RowKit Go.Read Go.Proofs.YtneepokiioefgaaGreatDoor.Pure YtneepokiioefgaaGreatDoorW.PrintWords YtneepokiioefgaaGreatDoorW.PrintLast YtneepokiioefgaaGreatDoorW.PrintMore
def bs (l : List UInt8) : ByteArray := ⟨l.toArray⟩
theorem bs_size (l : List UInt8) : (bs l).size = l.length := by
 show l.toArray.size = _
 exact List.size_toArray
theorem bs_list (l : List UInt8) : (bs l).toList = l := ByteArray.toList_mk l
theorem bs_to (l : List UInt8) (n : Nat) : (bs l).extract 0 n = bs (l.take n) := by
 show (ByteArray.mk l.toArray).extract 0 n = _
 rw [ByteArray.extract_mk]
 rfl
theorem bs_from (l : List UInt8) (n : Nat) : (bs l).extract n (bs l).size = bs (l.drop n) := by
 rw [bs_size]
 show (ByteArray.mk l.toArray).extract n l.length = _
 rw [ByteArray.extract_mk, List.take_of_length_le (by rw [List.length_drop]; omega)]
 rfl
end Go.Proofs.YtneepokiioefgaaGreatDoor.Dec
set_option maxHeartbeats 32000000
namespace Go.Proofs.YtneepokiioefgaaGreatDoor.Dec
open Go.RowKit Go.Flt Go.Read Go.Proofs.YtneepokiioefgaaGreatDoor.Pure YtneepokiioefgaaGreatDoorW.PrintWords YtneepokiioefgaaGreatDoorW.PrintLast YtneepokiioefgaaGreatDoorW.PrintMore
theorem res_row_tmp {P : Program} {fn : Func} {p u : Tmp} {ty : TypeId} (h : fn.results = #[.cell p ty, .tmp u]) (tmps : Array Value) (w : World) (g : Nat) (t : TypeId) (cs : Array Value) (fr : Nat × Nat) (d : TypeDesc)
  (hp : tmps.getD p undef = .pointer (some ⟨g, 0, none⟩)) (hg : w.heap[g]? = some (.cells cs t fr))
  (hu : P.underlying ty = some d) (hd : (match d with | .struct _ | .array _ _ => true | _ => false) = true) (hi : (P.info? ty).map (·.size) = some cs.size) :
  (results fn tmps).run P w = .ok (.tuple #[.agg cs, tmps.getD u undef]) w := by
 have hp' : tmps[p]?.getD undef = .pointer (some ⟨g, 0, none⟩) := by simpa using hp
 rw [results_cell_tmp h]
 simp [hp', asAddr, run_loadVar_row w g t ty cs fr d hg hu hd hi, Result.andThen]
theorem fmant_lt (a : Nat) : fmant a < 2 ^ 53 := by
 unfold fmant
 split <;> omega
theorem fpow_bound (a : Nat) (h : ffin a = true) : -1074 ≤ fpow a ∧ fpow a ≤ 971 := by
 unfold ffin at h
 rw [decide_eq_true_iff] at h
 unfold fpow fexp
 split <;> omega
theorem s_Split_any (w : World) (a : Nat) (ha : a < 18446744073709551616) : Calls Tryz.prog 60 #[.int .u64 (a : Int)] w fun e w' => ∃ neg v p, e = .returned (.tuple #[.bool neg, v, .int .i64 p, .bool (ffin a)]) ∧ Below w.heap.size w w' := by
 cases h : ffin a with
 | true =>
  refine (s_Split_good w a ha h).mono ?_
  rintro e w' ⟨v, rfl, -, hb⟩
  exact ⟨_, _, _, rfl, hb⟩
 | false =>
  refine (s_Split_bad w a ha h).mono ?_
  rintro e w' ⟨rfl, hb⟩
  exact ⟨_, _, _, rfl, hb⟩
set_option maxRecDepth 100000 in
theorem d_Rep_bad (w : World) (a : Nat) (ha : a < 18446744073709551616) (n : Int) (h : n < 1 ∨ 40 < n ∨ ffin a = false) : Calls Tryz.prog 49 #[.int .u64 (a : Int), .int .i64 n] w fun e w' => e = .returned (.tuple #[.agg #[.string ⟨#[]⟩, .int .i64 0, .bool false], .int .i64 1]) ∧ Below w.heap.size w w' := by
 have HS := md_ (fun w => s_Split_any w a ha)
 obtain ⟨aa, haa⟩ : ∃ z : Int, (a : Int) = z := ⟨_, rfl⟩
 obtain ⟨fin, hfin⟩ : ∃ z, ffin a = z := ⟨_, rfl⟩
 rw [haa, hfin] at HS
 rw [hfin] at h
 rw [haa]
 clear ha haa hfin
 by_cases c1 : n < 1
 ·have d1 := decide_eq_true c1
  clear h c1
  go_enter Tryz.func49, Tryz.ntmps49
  go_upto_region 1 with (fail)
  obtain ⟨g, hg⟩ : ∃ g, w.heap.size = g := ⟨_, rfl⟩
  generalize hW : w.alloc _ = W1
  have BK := md_ (show W1.heap[g]? = some (.cells #[.string ⟨#[]⟩, .int .i64 0, .bool false] 87 (0, 0)) by rw [← hW, ← hg]; exact blk_new _ _)
  have HB := md_ (show Below w.heap.size w W1 by rw [← hW]; exact below_alloc (Below.refl _ _) _)
  have GE := md_ (show w.heap.size ≤ g by omega)
  clear hW
  rw [hg]
  clear hg
  go_wp2_with ((go_at_call 60; (with_reducible refine (HS.out _).mono ?_); rintro e w' ⟨neg, v, p, rfl, hb⟩; replace HB := bt_ HB hb; replace BK := md_ (blk_below BK.out hb); have z0 := (blk_cell BK.out 0).trans (show _ = some (Value.string ⟨#[]⟩) from rfl); have z1 := (blk_cell BK.out 1).trans (show _ = some (Value.int .i64 0) from rfl); have z2 := (blk_cell BK.out 2).trans (show _ = some (Value.bool false) from rfl); have f0 := blk_frozen BK.out 0; have f1 := blk_frozen BK.out 1; have f2 := blk_frozen BK.out 2; clear hb))
  refine bodyPost_ret (res_row_tmp rfl _ _ g 87 #[.string ⟨#[]⟩, .int .i64 0, .bool false] (0, 0) _ rfl (by refine blk_put (cs := #[.string ⟨#[]⟩, .int .i64 0, .bool false]) ?_ 2 _ rfl; refine blk_put (cs := #[.string ⟨#[]⟩, .int .i64 0, .bool false]) ?_ 1 _ rfl; refine blk_put (cs := #[.string ⟨#[]⟩, .int .i64 0, .bool false]) ?_ 0 _ rfl; exact BK.out) Tryz.underlying87 rfl (by kernel_rfl)) rfl ?_
  exact ⟨rfl, below_set (below_set (below_set HB.out GE.out) GE.out) GE.out⟩
 have d1 := decide_eq_false c1
 by_cases c2 : 40 < n
 ·have d2 := decide_eq_true c2
  clear h c1 c2
  go_enter Tryz.func49, Tryz.ntmps49
  go_upto_region 1 with (fail)
  obtain ⟨g, hg⟩ : ∃ g, w.heap.size = g := ⟨_, rfl⟩
  generalize hW : w.alloc _ = W1
  have BK := md_ (show W1.heap[g]? = some (.cells #[.string ⟨#[]⟩, .int .i64 0, .bool false] 87 (0, 0)) by rw [← hW, ← hg]; exact blk_new _ _)
  have HB := md_ (show Below w.heap.size w W1 by rw [← hW]; exact below_alloc (Below.refl _ _) _)
  have GE := md_ (show w.heap.size ≤ g by omega)
  clear hW
  rw [hg]
  clear hg
  go_wp2_with ((go_at_call 60; (with_reducible refine (HS.out _).mono ?_); rintro e w' ⟨neg, v, p, rfl, hb⟩; replace HB := bt_ HB hb; replace BK := md_ (blk_below BK.out hb); have z0 := (blk_cell BK.out 0).trans (show _ = some (Value.string ⟨#[]⟩) from rfl); have z1 := (blk_cell BK.out 1).trans (show _ = some (Value.int .i64 0) from rfl); have z2 := (blk_cell BK.out 2).trans (show _ = some (Value.bool false) from rfl); have f0 := blk_frozen BK.out 0; have f1 := blk_frozen BK.out 1; have f2 := blk_frozen BK.out 2; clear hb))
  refine bodyPost_ret (res_row_tmp rfl _ _ g 87 #[.string ⟨#[]⟩, .int .i64 0, .bool false] (0, 0) _ rfl (by refine blk_put (cs := #[.string ⟨#[]⟩, .int .i64 0, .bool false]) ?_ 2 _ rfl; refine blk_put (cs := #[.string ⟨#[]⟩, .int .i64 0, .bool false]) ?_ 1 _ rfl; refine blk_put (cs := #[.string ⟨#[]⟩, .int .i64 0, .bool false]) ?_ 0 _ rfl; exact BK.out) Tryz.underlying87 rfl (by kernel_rfl)) rfl ?_
  exact ⟨rfl, below_set (below_set (below_set HB.out GE.out) GE.out) GE.out⟩
 ·have d2 := decide_eq_false c2
  have d3 : fin = false := by rcases h with h | h | h; exact absurd h c1; exact absurd h c2; exact h
  subst d3
  clear h c1 c2
  go_enter Tryz.func49, Tryz.ntmps49
  go_upto_region 1 with (fail)
  obtain ⟨g, hg⟩ : ∃ g, w.heap.size = g := ⟨_, rfl⟩
  generalize hW : w.alloc _ = W1
  have BK := md_ (show W1.heap[g]? = some (.cells #[.string ⟨#[]⟩, .int .i64 0, .bool false] 87 (0, 0)) by rw [← hW, ← hg]; exact blk_new _ _)
  have HB := md_ (show Below w.heap.size w W1 by rw [← hW]; exact below_alloc (Below.refl _ _) _)
  have GE := md_ (show w.heap.size ≤ g by omega)
  clear hW
  rw [hg]
  clear hg
  go_wp2_with ((go_at_call 60; (with_reducible refine (HS.out _).mono ?_); rintro e w' ⟨neg, v, p, rfl, hb⟩; replace HB := bt_ HB hb; replace BK := md_ (blk_below BK.out hb); have z0 := (blk_cell BK.out 0).trans (show _ = some (Value.string ⟨#[]⟩) from rfl); have z1 := (blk_cell BK.out 1).trans (show _ = some (Value.int .i64 0) from rfl); have z2 := (blk_cell BK.out 2).trans (show _ = some (Value.bool false) from rfl); have f0 := blk_frozen BK.out 0; have f1 := blk_frozen BK.out 1; have f2 := blk_frozen BK.out 2; clear hb))
  refine bodyPost_ret (res_row_tmp rfl _ _ g 87 #[.string ⟨#[]⟩, .int .i64 0, .bool false] (0, 0) _ rfl (by refine blk_put (cs := #[.string ⟨#[]⟩, .int .i64 0, .bool false]) ?_ 2 _ rfl; refine blk_put (cs := #[.string ⟨#[]⟩, .int .i64 0, .bool false]) ?_ 1 _ rfl; refine blk_put (cs := #[.string ⟨#[]⟩, .int .i64 0, .bool false]) ?_ 0 _ rfl; exact BK.out) Tryz.underlying87 rfl (by kernel_rfl)) rfl ?_
  exact ⟨rfl, below_set (below_set (below_set HB.out GE.out) GE.out) GE.out⟩
theorem rep48 (k : Nat) : Lib.repeatL [48] k = List.replicate k 48 := by
 induction k with
 | zero => rfl
 | succ k ih => rw [Lib.repeatL, ih, List.replicate_succ]; rfl
theorem d_Repeat (w : World) (n : Int) (h0 : 0 ≤ n) (h1 : n ≤ 1000000) : Calls Tryz.prog 61 #[.string ⟨#[48]⟩, .int .i64 n] w fun e w' => e = .returned (.string (bs (List.replicate n.toNat 48))) ∧ Below w.heap.size w w' := by
 have h := Tryz.strings_Repeat ⟨#[48]⟩ n.toNat w (by omega) (by show 1 * _ ≤ _; omega)
 rw [show ((n.toNat : Nat) : Int) = n by omega] at h
 have e : Lib.repeatL (⟨#[48]⟩ : ByteArray).data.toList n.toNat = List.replicate n.toNat 48 := rep48 _
 rw [e] at h
 exact h
set_option maxRecDepth 100000 in
theorem d_Rep_zero (w : World) (a : Nat) (ha : a < 18446744073709551616) (hf : ffin a = true) (hz : fmant a = 0) (n : Int) (h0 : 1 ≤ n) (h1 : n ≤ 40) : Calls Tryz.prog 49 #[.int .u64 (a : Int), .int .i64 n] w fun e w' => e = .returned (.tuple #[.agg #[.string (bs (List.replicate n.toNat 48)), .int .i64 0, .bool (fneg a)], .int .i64 0]) ∧ Below w.heap.size w w' := by
 have HS := md_ (fun w => s_Split_good w a ha hf)
 have HR := md_ (fun w => d_Repeat w n (by omega) (by omega))
 obtain ⟨aa, haa⟩ : ∃ z : Int, (a : Int) = z := ⟨_, rfl⟩
 obtain ⟨neg, hneg⟩ : ∃ z, fneg a = z := ⟨_, rfl⟩
 obtain ⟨t, ht⟩ : ∃ z, bs (List.replicate n.toNat 48) = z := ⟨_, rfl⟩
 rw [haa, hneg, hz] at HS
 rw [ht] at HR
 rw [haa, hneg, ht]
 have d1 := decide_eq_false (show ¬ n < 1 by omega)
 have d2 := decide_eq_false (show ¬ 40 < n by omega)
 have HZ := md_ (show (Num.wordsN 0).length = 0 by rw [Num.wordsN_zero]; rfl)
 clear ha hf hz haa hneg ht h0 h1
 go_enter Tryz.func49, Tryz.ntmps49
 go_upto_region 1 with (fail)
 obtain ⟨g, hg⟩ : ∃ g, w.heap.size = g := ⟨_, rfl⟩
 generalize hW : w.alloc _ = W1
 have BK := md_ (show W1.heap[g]? = some (.cells #[.string ⟨#[]⟩, .int .i64 0, .bool false] 87 (0, 0)) by rw [← hW, ← hg]; exact blk_new _ _)
 have HB := md_ (show Below w.heap.size w W1 by rw [← hW]; exact below_alloc (Below.refl _ _) _)
 have GE := md_ (show w.heap.size ≤ g by omega)
 clear hW
 rw [hg]
 clear hg
 go_wp2_with (first | (go_at_call 60; (with_reducible refine (HS.out _).mono ?_); rintro e w' ⟨v, rfl, hv, hb⟩; obtain ⟨A, c, hva, -, -, -⟩ := hv.open; rw [HZ.out] at hva; subst hva; clear hv; replace HB := bt_ HB hb; replace BK := md_ (blk_below BK.out hb); have z0 := (blk_cell BK.out 0).trans (show _ = some (Value.string ⟨#[]⟩) from rfl); have z1 := (blk_cell BK.out 1).trans (show _ = some (Value.int .i64 0) from rfl); have z2 := (blk_cell BK.out 2).trans (show _ = some (Value.bool false) from rfl); have f0 := blk_frozen BK.out 0; have f1 := blk_frozen BK.out 1; have f2 := blk_frozen BK.out 2; clear hb) | (go_at_call 61; (with_reducible refine (HR.out _).mono ?_); rintro e w'' ⟨rfl, hb⟩; clear z0 z1 z2 f0 f1 f2; replace HB := bt_ HB hb; replace BK := md_ (blk_below BK.out hb); have z0 := (blk_cell BK.out 0).trans (show _ = some (Value.string ⟨#[]⟩) from rfl); have z1 := (blk_cell BK.out 1).trans (show _ = some (Value.int .i64 0) from rfl); have z2 := (blk_cell BK.out 2).trans (show _ = some (Value.bool false) from rfl); have f0 := blk_frozen BK.out 0; have f1 := blk_frozen BK.out 1; have f2 := blk_frozen BK.out 2; clear hb))
 refine bodyPost_ret (res_row_tmp rfl _ _ g 87 #[.string t, .int .i64 0, .bool neg] (0, 0) _ rfl (by refine blk_put (cs := #[.string t, .int .i64 0, .bool false]) ?_ 2 _ rfl; refine blk_put (cs := #[.string t, .int .i64 0, .bool false]) ?_ 1 _ rfl; refine blk_put (cs := #[.string ⟨#[]⟩, .int .i64 0, .bool false]) ?_ 0 _ rfl; exact BK.out) Tryz.underlying87 rfl (by kernel_rfl)) rfl ?_
 exact ⟨rfl, below_set (below_set (below_set HB.out GE.out) GE.out) GE.out⟩
theorem tdiv_bound (s : Int) (h : -32400000 ≤ s) (h2 : s ≤ 32400000) : -324 ≤ s.tdiv 100000 ∧ s.tdiv 100000 ≤ 324 := by
 rcases Int.le_total 0 s with c | c
 ·rw [Int.tdiv_eq_ediv_of_nonneg c]
  omega
 ·obtain ⟨z, hz⟩ : ∃ z, s = -z := ⟨-s, by omega⟩
  subst hz
  rw [Int.neg_tdiv, Int.tdiv_eq_ediv_of_nonneg (by omega)]
  omega
set_option maxRecDepth 100000 in
theorem d_Rep_main (w : World) (a : Nat) (ha : a < 18446744073709551616) (hf : ffin a = true) (hz : 0 < fmant a) (n : Int) (h0 : 1 ≤ n) (h1 : n ≤ 40) (D : Int) (hD : Dex (fmant a) (fpow a) D) : Calls Tryz.prog 49 #[.int .u64 (a : Int), .int .i64 n] w fun e w' => e = .returned (.tuple #[.agg #[.string (bs (repT (fmant a) (fpow a) n D)), .int .i64 (repX (fmant a) (fpow a) n D), .bool (fneg a)], .int .i64 0]) ∧ Below w.heap.size w w' := by
 have HS := md_ (fun w => s_Split_good w a ha hf)
 have hM := fmant_lt a
 obtain ⟨he1, he2⟩ := fpow_bound a hf
 obtain ⟨aa, haa⟩ : ∃ z : Int, (a : Int) = z := ⟨_, rfl⟩
 obtain ⟨neg, hneg⟩ : ∃ z, fneg a = z := ⟨_, rfl⟩
 rw [haa, hneg] at HS
 rw [haa, hneg]
 obtain ⟨M, hMM⟩ : ∃ z, fmant a = z := ⟨_, rfl⟩
 obtain ⟨e, hee⟩ : ∃ z, fpow a = z := ⟨_, rfl⟩
 rw [hMM, hee] at HS hD ⊢
 rw [hMM] at hM hz
 rw [hee] at he1 he2
 obtain ⟨hD1, hD2⟩ := hD.bound hz hM he1 he2
 have fM : Fit M := fit_lt hM (by omega)
 have HBits := md_ (fun (w : World) (v : Value) (h : Nm w v M) => n_Bits h fM)
 have hb53 : Num.bitsN M ≤ 53 := bits_lt hM
 obtain ⟨b, hbb⟩ : ∃ z : Int, ((Num.bitsN M : Nat) : Int) = z := ⟨_, rfl⟩
 rw [hbb] at HBits
 have hb0 : 0 ≤ b ∧ b ≤ 53 := by omega
 obtain ⟨s1, hs1⟩ : ∃ z, b + e = z := ⟨_, rfl⟩
 obtain ⟨s2, hs2⟩ : ∃ z, s1 * 30103 = z := ⟨_, rfl⟩
 obtain ⟨s3, hs3⟩ : ∃ z, s2.tdiv 100000 = z := ⟨_, rfl⟩
 have hs3b := tdiv_bound s2 (by omega) (by omega)
 rw [hs3] at hs3b
 obtain ⟨x0, hx0⟩ : ∃ z, s3 + 1 = z := ⟨_, rfl⟩
 have v1 : wrap64 (b + e) = s1 := by rw [hs1, i64_id (by omega) (by omega)]
 have v2 : IntKind.i64.wrap (b + e) = s1 := (i64_w _).trans v1
 have v3 : wrap64 (s1 * 30103) = s2 := by rw [hs2, i64_id (by omega) (by omega)]
 have v4 : IntKind.i64.wrap (s1 * 30103) = s2 := (i64_w _).trans v3
 have v5 : wrap64 s3 = s3 := i64_id (by omega) (by omega)
 have v6 : IntKind.i64.wrap s3 = s3 := (i64_w _).trans v5
 have v7 : wrap64 (s3 + 1) = x0 := by rw [hx0, i64_id (by omega) (by omega)]
 have v8 : IntKind.i64.wrap (s3 + 1) = x0 := (i64_w _).trans v7
 have HX0 := md_ (show -400 ≤ x0 ∧ x0 ≤ 400 by omega)
 have HDB := md_ (show -335 ≤ D ∧ D ≤ 342 by omega)
 have HDD := md_ hD
 have HRch := md_ (fun (w : World) (v : Value) (h : Nm w v M) (x : Int) (k1 : -400 ≤ x) (k2 : x ≤ 400) => d_reaches w h hM e x he1 he2 k1 k2)
 have HNear := md_ (fun (w : World) (v : Value) (h : Nm w v M) => d_near w h hM e n D he1 he2 (by omega) (by omega) (by omega) (by omega))
 obtain ⟨L, hL⟩ : ∃ z, (Num.wordsN M).length = z := ⟨_, rfl⟩
 have hL0 : 0 < L := by
  rw [← hL]
  rcases Nat.eq_zero_or_pos (Num.wordsN M).length with z | z
  ·exfalso
   have : M = 0 := by rw [← Num.wordsN_val M, List.eq_nil_of_length_eq_zero z]; rfl
   omega
  ·exact z
 have HL := md_ hL
 have g1 : ((L : Int) == 0) = false := by rw [beq_eq_false_iff_ne]; omega
 have g2 : ¬ (L : Int) = 0 := by omega
 have g3 : ¬ L = 0 := by omega
 have d1 := decide_eq_false (show ¬ n < 1 by omega)
 have d2 := decide_eq_false (show ¬ 40 < n by omega)
 have HN := md_ (show 1 ≤ n ∧ n ≤ 40 by omega)
 obtain ⟨T, hT⟩ : ∃ z, Num.textN (nearN M e (D - n)) = z := ⟨_, rfl⟩
 have hTT : (⟨(Num.textN (nearN M e (D - n))).toArray⟩ : ByteArray) = bs T := by rw [hT]; rfl
 rw [hTT] at HNear
 unfold repT repX
 rw [hT]
 obtain ⟨t, ht⟩ : ∃ z, bs T = z := ⟨_, rfl⟩
 rw [ht] at HNear
 have htl : T.length = t.size := by rw [← ht, bs_size]
 have htk : bs (T.take n.toNat) = if n < T.length then t.extract 0 n.toNat else t := by
  split
  ·rw [← ht, bs_to]
  ·rw [← ht, List.take_of_length_le (by omega)]
 rw [htk, htl]
 obtain ⟨u, hu⟩ : ∃ z : ByteArray, (if n < (t.size : Nat) then t.extract 0 n.toNat else t) = z := ⟨_, rfl⟩
 obtain ⟨x5, hx5⟩ : ∃ z : Int, (if n < (t.size : Nat) then D + 1 else D) = z := ⟨_, rfl⟩
 rw [hu, hx5]
 have HU := md_ hu
 have HXX := md_ hx5
 clear hu hx5 htk htl ht hT hTT hL hL0 hb0 hb53 fM hM hz hD he1 he2 hs3b hD1 hD2 h0 h1 ha hf haa hneg hMM hee hbb hs1 hs2 hx0
 go_enter Tryz.func49, Tryz.ntmps49
 go_upto_region 1 with (fail)
 obtain ⟨g, hg⟩ : ∃ g, w.heap.size = g := ⟨_, rfl⟩
 generalize hW : w.alloc _ = W1
 have BK := md_ (show W1.heap[g]? = some (.cells #[.string ⟨#[]⟩, .int .i64 0, .bool false] 87 (0, 0)) by rw [← hW, ← hg]; exact blk_new _ _)
 have HB := md_ (show Below w.heap.size w W1 by rw [← hW]; exact below_alloc (Below.refl _ _) _)
 have GE := md_ (show w.heap.size ≤ g by omega)
 clear hW
 rw [hg]
 clear hg
 go_wp2_with (first | (go_at_call 60; (with_reducible refine (HS.out _).mono ?_); rintro e w' ⟨v, rfl, hv, hb⟩; obtain ⟨A, c, hva, -, -, -⟩ := hv.open; rw [HL.out] at hva; subst hva; have HV := md_ hv; clear hv; replace HB := bt_ HB hb; replace BK := md_ (blk_below BK.out hb); clear hb) | (go_at_call 62; (with_reducible refine (HBits.out _ _ HV.out).mono ?_); rintro e w'' ⟨rfl, hb⟩; replace HV := md_ (HV.out.below hb); replace HB := bt_ HB hb; replace BK := md_ (blk_below BK.out hb); clear hb))
 clear v1 v2 v3 v4 v5 v6 v7 v8 hs3 HS HBits
 go_loopg [10] (D - x0).toNat (fun kq v10 wr => ∃ x : Int, v10 = .int .i64 x ∧ Aside0 (-400 ≤ x ∧ x ≤ 400 ∧ -400 ≤ x ∧ (D - x).toNat = kq) ∧ Aside0 (Nm wr (.slice A L c) M) ∧ Aside0 (Below w.heap.size w wr) ∧ Aside0 (wr.heap[g]? = some (.cells #[.string ⟨#[]⟩, .int .i64 0, .bool false] 87 (0, 0))))
 case atStart => exact ⟨x0, rfl, ⟨by have := HX0.out; omega⟩, HV, HB, BK⟩
 case round =>
  clear HV HB BK
  obtain ⟨x, rfl, HQ, HV, HB, BK⟩ := hrel
  have C1 := md_ (fun wq (h : Nm wq (.slice A L c) M) => HRch.out wq _ h x (by have := HQ.out; omega) (by have := HQ.out; omega))
  cases hx : rch M e x with
  | true =>
   have hlt : x < D := HDD.out.lt hx
   obtain ⟨j, rfl⟩ : ∃ j, gk = j + 1 := ⟨gk - 1, by have := HQ.out; omega⟩
   have HQ2 := md_ (show -400 ≤ x + 1 ∧ x + 1 ≤ 400 ∧ -400 ≤ x + 1 ∧ (D - (x + 1)).toNat = j by have := HQ.out; have := HDB.out; omega)
   have y1 : wrap64 (x + 1) = x + 1 := by have := HQ2.out; rw [i64_id (by omega) (by omega)]
   have y2 : IntKind.i64.wrap (x + 1) = x + 1 := (i64_w _).trans y1
   rw [hx] at C1
   clear hx hlt
   go_wp2_with (go_at_call 63; (with_reducible refine (C1.out _ HV.out).mono ?_); rintro q w5 ⟨rfl, hb⟩; replace HV := md_ (HV.out.below hb); replace HB := bt_ HB hb; replace BK := md_ (blk_below BK.out hb); clear hb)
   go_roundg j
   case measure => omega
   case rel => exact ⟨x + 1, by first | rfl | (rw [y1]) | (rw [y2]), HQ2, HV, HB, BK⟩
  | false =>
   have hge : D ≤ x := HDD.out.ge hx
   have HG := md_ (show -400 ≤ x ∧ x ≤ 400 ∧ D ≤ x by have := HQ.out; omega)
   rw [hx] at C1
   clear hx hge
   go_wp2_with (go_at_call 63; (with_reducible refine (C1.out _ HV.out).mono ?_); rintro q w5 ⟨rfl, hb⟩; replace HV := md_ (HV.out.below hb); replace HB := bt_ HB hb; replace BK := md_ (blk_below BK.out hb); clear hb)
   go_loopg [10] (x - D).toNat (fun kq v10 wr => ∃ x : Int, v10 = .int .i64 x ∧ Aside0 (-400 ≤ x ∧ x ≤ 400 ∧ D ≤ x ∧ (x - D).toNat = kq) ∧ Aside0 (Nm wr (.slice A L c) M) ∧ Aside0 (Below w.heap.size w wr) ∧ Aside0 (wr.heap[g]? = some (.cells #[.string ⟨#[]⟩, .int .i64 0, .bool false] 87 (0, 0))))
   case atStart => exact ⟨x, rfl, ⟨by have := HG.out; omega⟩, HV, HB, BK⟩
   case round =>
    clear HV HB BK HQ HG C1
    obtain ⟨x2, rfl, HQ, HV, HB, BK⟩ := hrel
    have C2 := md_ (fun wq (h : Nm wq (.slice A L c) M) => HRch.out wq _ h (x2 - 1) (by have := HQ.out; have := HDB.out; omega) (by have := HQ.out; omega))
    obtain ⟨x3, hx3⟩ : ∃ z, x2 - 1 = z := ⟨_, rfl⟩
    have y1 : wrap64 (x2 - 1) = x3 := by have := HQ.out; rw [i64_id (by omega) (by omega)]; exact hx3
    have y2 : IntKind.i64.wrap (x2 - 1) = x3 := (i64_w _).trans y1
    rw [hx3] at C2
    cases hx : rch M e x3 with
    | false =>
     have hge : D ≤ x3 := HDD.out.ge hx
     obtain ⟨j, rfl⟩ : ∃ j, gk = j + 1 := ⟨gk - 1, by have := HQ.out; omega⟩
     have HQ2 := md_ (show -400 ≤ x3 ∧ x3 ≤ 400 ∧ D ≤ x3 ∧ (x3 - D).toNat = j by have := HQ.out; have := HDB.out; omega)
     rw [hx] at C2
     have hx4 := md_ hx3
     clear hx hge hx3
     go_wp2_with (go_at_call 63; (with_reducible refine (C2.out _ HV.out).mono ?_); rintro q w5 ⟨rfl, hb⟩; replace HV := md_ (HV.out.below hb); replace HB := bt_ HB hb; replace BK := md_ (blk_below BK.out hb); clear hb)
     go_roundg j
     case measure => omega
     case rel => exact ⟨x3, by first | rfl | (rw [y1]) | (rw [y2]), HQ2, HV, HB, BK⟩
    | true =>
     have hlt : x3 < D := HDD.out.lt hx
     have hx2 : x2 = D := by have := HQ.out; omega
     rw [hx] at C2
     subst hx2
     have hx4 := md_ hx3
     clear hx hlt hx3
     by_cases hn : n < (t.size : Nat)
     ·have e1 := decide_eq_true hn
      have e2 : (0 : Int) ≤ n := by have := HN.out; omega
      have e3 : n ≤ (t.size : Nat) := by omega
      have hu := HU.out
      have hx5 := HXX.out
      rw [if_pos hn] at hu hx5
      have z1 : wrap64 (x2 + 1) = x5 := by have := HQ.out; rw [i64_id (by omega) (by omega)]; exact hx5
      have z2 : IntKind.i64.wrap (x2 + 1) = x5 := (i64_w _).trans z1
      clear hn hx5
      go_wp2_with (first | (go_at_call 63; (with_reducible refine (C2.out _ HV.out).mono ?_); rintro q w5 ⟨rfl, hb⟩; replace HV := md_ (HV.out.below hb); replace HB := bt_ HB hb; replace BK := md_ (blk_below BK.out hb); clear hb) | (go_at_call 64; (with_reducible refine (HNear.out _ _ HV.out).mono ?_); rintro q w6 ⟨rfl, hb⟩; replace HB := bt_ HB hb; replace BK := md_ (blk_below BK.out hb); have z0 := (blk_cell BK.out 0).trans (show _ = some (Value.string ⟨#[]⟩) from rfl); have z1 := (blk_cell BK.out 1).trans (show _ = some (Value.int .i64 0) from rfl); have z2 := (blk_cell BK.out 2).trans (show _ = some (Value.bool false) from rfl); have f0 := blk_frozen BK.out 0; have f1 := blk_frozen BK.out 1; have f2 := blk_frozen BK.out 2; clear hb))
      refine bodyPost_ret (res_row_tmp rfl _ _ g 87 #[.string u, .int .i64 x5, .bool neg] (0, 0) _ rfl (by refine blk_put (cs := #[.string u, .int .i64 x5, .bool false]) ?_ 2 _ rfl; refine blk_put (cs := #[.string u, .int .i64 0, .bool false]) ?_ 1 _ rfl; refine blk_put (cs := #[.string ⟨#[]⟩, .int .i64 0, .bool false]) ?_ 0 _ rfl; exact BK.out) Tryz.underlying87 rfl (by kernel_rfl)) rfl ?_
      exact ⟨rfl, below_set (below_set (below_set HB.out GE.out) GE.out) GE.out⟩
     ·have e1 := decide_eq_false hn
      have hu := HU.out
      have hx5 := HXX.out
      rw [if_neg hn] at hu hx5
      subst hu hx5
      clear hn
      go_wp2_with (first | (go_at_call 63; (with_reducible refine (C2.out _ HV.out).mono ?_); rintro q w5 ⟨rfl, hb⟩; replace HV := md_ (HV.out.below hb); replace HB := bt_ HB hb; replace BK := md_ (blk_below BK.out hb); clear hb) | (go_at_call 64; (with_reducible refine (HNear.out _ _ HV.out).mono ?_); rintro q w6 ⟨rfl, hb⟩; replace HB := bt_ HB hb; replace BK := md_ (blk_below BK.out hb); have z0 := (blk_cell BK.out 0).trans (show _ = some (Value.string ⟨#[]⟩) from rfl); have z1 := (blk_cell BK.out 1).trans (show _ = some (Value.int .i64 0) from rfl); have z2 := (blk_cell BK.out 2).trans (show _ = some (Value.bool false) from rfl); have f0 := blk_frozen BK.out 0; have f1 := blk_frozen BK.out 1; have f2 := blk_frozen BK.out 2; clear hb))
      refine bodyPost_ret (res_row_tmp rfl _ _ g 87 #[.string t, .int .i64 x2, .bool neg] (0, 0) _ rfl (by refine blk_put (cs := #[.string t, .int .i64 x2, .bool false]) ?_ 2 _ rfl; refine blk_put (cs := #[.string t, .int .i64 0, .bool false]) ?_ 1 _ rfl; refine blk_put (cs := #[.string ⟨#[]⟩, .int .i64 0, .bool false]) ?_ 0 _ rfl; exact BK.out) Tryz.underlying87 rfl (by kernel_rfl)) rfl ?_
      exact ⟨rfl, below_set (below_set (below_set HB.out GE.out) GE.out) GE.out⟩
end Go.Proofs.YtneepokiioefgaaGreatDoor.Dec
set_option maxHeartbeats 32000000
namespace Go.Flt
open Go.Proofs.YtneepokiioefgaaGreatDoor Go.Proofs.YtneepokiioefgaaGreatDoor.Dec
open Classical in
noncomputable def dex (m : Nat) (e : Int) : Int := if h : ∃ D, Dex m e D then Classical.choose h else 0
theorem dex_is {m : Nat} {e : Int} (hm : 0 < m) (hm2 : m < 2 ^ 53) (he : -1074 ≤ e) (he2 : e ≤ 971) : Dex m e (dex m e) := by
 obtain ⟨D, hD, _⟩ := Dex.some hm hm2 he he2
 have h : ∃ D, Dex m e D := ⟨D, hD⟩
 unfold dex
 rw [dif_pos h]
 exact Classical.choose_spec h
noncomputable def repText (a : Nat) (n : Int) : List UInt8 := if fmant a = 0 then List.replicate n.toNat 48 else repT (fmant a) (fpow a) n (dex (fmant a) (fpow a))
noncomputable def repExp (a : Nat) (n : Int) : Int := if fmant a = 0 then 0 else repX (fmant a) (fpow a) n (dex (fmant a) (fpow a))
end Go.Flt
namespace Go.Proofs.YtneepokiioefgaaGreatDoor.Dec
open Go.RowKit Go.Flt Go.Read Go.Proofs.YtneepokiioefgaaGreatDoor.Pure YtneepokiioefgaaGreatDoorW.PrintWords YtneepokiioefgaaGreatDoorW.PrintLast YtneepokiioefgaaGreatDoorW.PrintMore
theorem rep_dex {a : Nat} (hf : ffin a = true) (hz : fmant a ≠ 0) : Dex (fmant a) (fpow a) (dex (fmant a) (fpow a)) :=
 dex_is (Nat.pos_of_ne_zero hz) (fmant_lt a) (fpow_bound a hf).1 (fpow_bound a hf).2
theorem d_Rep (w : World) (a : Nat) (ha : a < 18446744073709551616) (hf : ffin a = true) (n : Int) (h0 : 1 ≤ n) (h1 : n ≤ 40) : Calls Tryz.prog 49 #[.int .u64 (a : Int), .int .i64 n] w fun e w' => e = .returned (.tuple #[.agg #[.string (bs (repText a n)), .int .i64 (repExp a n), .bool (fneg a)], .int .i64 0]) ∧ Below w.heap.size w w' := by
 unfold repText repExp
 by_cases hz : fmant a = 0
 ·rw [if_pos hz, if_pos hz]
  exact d_Rep_zero w a ha hf hz n h0 h1
 ·rw [if_neg hz, if_neg hz]
  exact d_Rep_main w a ha hf (Nat.pos_of_ne_zero hz) n h0 h1 _ (rep_dex hf hz)
theorem textN_ne (v : Nat) : Num.textN v ≠ [] := Pure.textN_ne v
theorem repText_ne {a : Nat} {n : Int} (h0 : 1 ≤ n) : repText a n ≠ [] := by
 unfold repText
 split
 ·intro h
  have := congrArg List.length h
  rw [List.length_replicate, List.length_nil] at this
  omega
 ·unfold repT
  intro h
  have := congrArg List.length h
  rw [List.length_take, List.length_nil] at this
  have h2 := textN_ne (nearN (fmant a) (fpow a) (dex (fmant a) (fpow a) - n))
  have h3 := List.length_pos_iff.2 h2
  omega
theorem repExp_bound {a : Nat} (hf : ffin a = true) (n : Int) : -335 ≤ repExp a n ∧ repExp a n ≤ 343 := by
 unfold repExp
 split
 ·omega
 ·have hz : fmant a ≠ 0 := by assumption
  have := (rep_dex hf hz).bound (Nat.pos_of_ne_zero hz) (fmant_lt a) (fpow_bound a hf).1 (fpow_bound a hf).2
  unfold repX
  split <;> omega
end Go.Proofs.YtneepokiioefgaaGreatDoor.Dec
set_option maxHeartbeats 32000000
namespace Go.Proofs.YtneepokiioefgaaGreatDoor.Dec
open Go.RowKit Go.Flt Go.Read PDec Go.Proofs.YtneepokiioefgaaGreatDoor.Pure YtneepokiioefgaaGreatDoorW.PrintWords YtneepokiioefgaaGreatDoorW.PrintLast YtneepokiioefgaaGreatDoorW.PrintMore
attribute [local go_sem] max2_int min2_int max_two min_two max_three min_three max_four min_four
theorem join_nil (l : List (List UInt8)) : Lib.join l [] = l.flatten := by
 unfold Lib.join
 induction l with
 | nil => rfl
 | cons a t ih =>
  cases t with
  | nil => simp [List.intercalate]
  | cons b r =>
   rw [List.flatten_cons, ← ih]
   simp [List.intercalate, List.intersperse]
theorem d_join (w : World) (k c : Nat) (L : List (List UInt8)) (hc : L.length ≤ c) (hk : k < w.heap.size) (hcells : ∀ j l, L[j]? = some l → w.cell? ⟨k, j, none⟩ = some (.string (bs l))) (hL : L.length ≤ 1000) (hF : L.flatten.length ≤ 1000000) :
  Calls Tryz.prog 38 #[.slice (some ⟨k, 0, none⟩) L.length c] w fun e w' => e = .returned (.string (bs L.flatten)) ∧ Below w.heap.size w w' := by
 have hm : (L.map bs).map (fun x => x.data.toList) = L := by
  rw [List.map_map]
  have : ((fun x : ByteArray => x.data.toList) ∘ bs) = id := by
   funext l
   rfl
  rw [this, List.map_id]
 have HJ : Aside0 (Calls Tryz.prog 26 #[.slice (some ⟨k, 0, none⟩) L.length c, .string ⟨#[]⟩] w fun e w' => e = .returned (.string (bs L.flatten)) ∧ Below w.heap.size w w') := ⟨by
  have h := Tryz.strings_Join k 0 c (L.map bs) ⟨#[]⟩ w (by
   intro j x hj
   rw [List.getElem?_map] at hj
   obtain ⟨l, hl, rfl⟩ := Option.map_eq_some_iff.1 hj
   rw [Nat.zero_add]
   exact hcells j l hl) hk (by rw [List.length_map]; omega) (by rw [List.length_map]; exact hc) (by rw [hm]; show (Lib.join L []).length ≤ _; rw [join_nil]; omega)
  rw [hm, List.length_map] at h
  have e : (⟨#[]⟩ : ByteArray).data.toList = [] := rfl
  rw [e, join_nil] at h
  exact h⟩
 obtain ⟨t, ht⟩ : ∃ z, bs L.flatten = z := ⟨_, rfl⟩
 obtain ⟨n, hn⟩ : ∃ z, L.length = z := ⟨_, rfl⟩
 rw [ht, hn] at HJ
 rw [ht, hn]
 clear ht hcells hL hF hm hc hn
 go_enter Tryz.func38, Tryz.ntmps38
 go_wp2_with (go_at_call 26; (with_reducible refine HJ.out.mono ?_); rintro e w' ⟨rfl, hb⟩; have n0_ := md_ hb; clear hb; have HB := n0_; clear n0_)
 go_ret
 exact ⟨rfl, HB.out⟩
theorem d_join5 (W W' : World) (x y z u v : List UInt8) (h : Below (W.alloc (.cells #[.string (bs x), .string (bs y), .string (bs z), .string (bs u), .string (bs v)] 9)).heap.size (W.alloc (.cells #[.string (bs x), .string (bs y), .string (bs z), .string (bs u), .string (bs v)] 9)) W') (hl : x.length + y.length + z.length + u.length + v.length ≤ 1000000) :
  Calls Tryz.prog 38 #[.slice (some ⟨W.heap.size, 0, none⟩) 5 5] W' fun e w' => e = .returned (.string (bs [x, y, z, u, v].flatten)) ∧ Below W'.heap.size W' w' := by
 have hB := blk_below (blk_new W (.cells #[.string (bs x), .string (bs y), .string (bs z), .string (bs u), .string (bs v)] 9)) h
 refine d_join W' W.heap.size 5 [x, y, z, u, v] (by simp) (blk_lt hB) ?_ (by simp) (by simp; omega)
 intro j l hj
 match j, hj with
 | 0, hj => cases hj; exact (blk_cell hB 0).trans rfl
 | 1, hj => cases hj; exact (blk_cell hB 1).trans rfl
 | 2, hj => cases hj; exact (blk_cell hB 2).trans rfl
 | 3, hj => cases hj; exact (blk_cell hB 3).trans rfl
 | 4, hj => cases hj; exact (blk_cell hB 4).trans rfl
 | j + 5, hj => cases hj
end Go.Proofs.YtneepokiioefgaaGreatDoor.Dec
set_option maxHeartbeats 32000000
namespace Go.Proofs.YtneepokiioefgaaGreatDoor.Dec
open Go.RowKit Go.Flt Go.Read Go.Proofs.YtneepokiioefgaaGreatDoor.Pure YtneepokiioefgaaGreatDoorW.PrintWords YtneepokiioefgaaGreatDoorW.PrintLast YtneepokiioefgaaGreatDoorW.PrintMore
theorem decL_trim (l : List UInt8) : Num.decL 0 (trim0 l) = Num.decL 0 l := by
 induction l with
 | nil => rfl
 | cons c t ih =>
  unfold trim0
  rw [List.dropWhile_cons]
  by_cases h : c = 48
  ·subst h
   exact ih
  ·rw [if_neg (by simpa using h)]
theorem trim_digs {l : List UInt8} (h : Num.digs l = true) : Num.digs (trim0 l) = true := by
 unfold Num.digs at *
 rw [List.all_eq_true] at *
 exact fun x hx => h x ((List.dropWhile_sublist _).mem hx)
theorem trim_pos {l : List UInt8} (h : Num.digs l = true) (h0 : trim0 l ≠ []) : 10 ^ ((trim0 l).length - 1) ≤ Num.decL 0 l := by
 rw [← decL_trim]
 have hd := trim_digs h
 match ht : trim0 l, h0 with
 | c :: t, _ =>
  rw [ht] at hd
  have hc := Num.digs_mem hd c List.mem_cons_self
  have hne : c ≠ 48 := fun e => by
   have : ∀ (l m : List UInt8) (x : UInt8), l.dropWhile (· == 48) = x :: m → x ≠ 48 := by
    intro l
    induction l with
    | nil => intro m x h; cases h
    | cons a b ih =>
     intro m x h
     rw [List.dropWhile_cons] at h
     by_cases k : a = 48
     ·rw [if_pos (by simpa using k)] at h; exact ih m x h
     ·rw [if_neg (by simpa using k)] at h
      cases h
      exact k
   exact this l t c ht e
  have hn : 48 ≠ c.toNat := fun e => hne (UInt8.toNat_inj.1 e.symm)
  show 10 ^ t.length ≤ Num.decL (0 * 10 + (c.toNat - 48)) t
  rw [Num.decL_acc]
  have : 1 * 10 ^ t.length ≤ (0 * 10 + (c.toNat - 48)) * 10 ^ t.length := Nat.mul_le_mul_right _ (by omega)
  omega
end Go.Proofs.YtneepokiioefgaaGreatDoor.Dec
set_option maxHeartbeats 32000000
namespace Go.Flt
open Go.Read Go.Proofs.YtneepokiioefgaaGreatDoor Go.Proofs.YtneepokiioefgaaGreatDoor.Dec
theorem step10 (m : Nat) (e k : Int) : (rhs e (k + 1) = 10 * rhs e k ∧ lhs m e (k + 1) = lhs m e k) ∨ (rhs e (k + 1) = rhs e k ∧ lhs m e k = 10 * lhs m e (k + 1)) := by
 unfold lhs rhs
 rcases Int.lt_or_le k 0 with c | c
 ·right
  rw [show (k + 1).toNat = 0 by omega, show k.toNat = 0 by omega, show (-k).toNat = (-(k + 1)).toNat + 1 by omega]
  refine ⟨rfl, ?_⟩
  rw [Nat.pow_succ, ← Nat.mul_assoc, Nat.mul_comm _ 10, Nat.mul_assoc 10]
 ·left
  rw [show (k + 1).toNat = k.toNat + 1 by omega, show (-(k + 1)).toNat = 0 by omega, show (-k).toNat = 0 by omega]
  refine ⟨?_, rfl⟩
  rw [Nat.pow_succ, Nat.mul_comm _ 10, Nat.mul_assoc]
theorem scale_ge {m c : Nat} {e k : Int} (j : Nat) (h : c * rhs e (k + j) ≤ lhs m e (k + j)) : c * 10 ^ j * rhs e k ≤ lhs m e k := by
 induction j generalizing c with
 | zero => simpa using h
 | succ j ih =>
  have h1 : c * 10 * rhs e (k + j) ≤ lhs m e (k + j) := by
   rw [show k + ((j + 1 : Nat) : Int) = k + j + 1 by omega] at h
   rcases step10 m e (k + j) with ⟨a, b⟩ | ⟨a, b⟩
   ·rw [a, b] at h
    rw [Nat.mul_assoc]
    exact h
   ·rw [a] at h
    rw [b, Nat.mul_right_comm, Nat.mul_comm _ 10]
    exact Nat.mul_le_mul_left _ h
  have := ih h1
  rw [Nat.pow_succ, Nat.mul_comm _ 10, ← Nat.mul_assoc]
  exact this
theorem scale_lt {m c : Nat} {e k : Int} (j : Nat) (h : lhs m e (k + j) < c * rhs e (k + j)) : lhs m e k < c * 10 ^ j * rhs e k := by
 induction j generalizing c with
 | zero => simpa using h
 | succ j ih =>
  have h1 : lhs m e (k + j) < c * 10 * rhs e (k + j) := by
   rw [show k + ((j + 1 : Nat) : Int) = k + j + 1 by omega] at h
   rcases step10 m e (k + j) with ⟨a, b⟩ | ⟨a, b⟩
   ·rw [a, b] at h
    rw [Nat.mul_assoc]
    exact h
   ·rw [a] at h
    rw [b, Nat.mul_right_comm, Nat.mul_comm _ 10]
    omega
  have := ih h1
  rw [Nat.pow_succ, Nat.mul_comm _ 10, ← Nat.mul_assoc]
  exact this
theorem rhs_pos (e k : Int) : 0 < rhs e k := Nat.mul_pos (Nat.pow_pos (by decide)) (Nat.two_pow_pos _)
theorem near_ge {m c : Nat} {e k : Int} (h : c * rhs e k ≤ lhs m e k) : c ≤ nearN m e k := by
 have h1 : c ≤ lhs m e k / rhs e k := (Nat.le_div_iff_mul_le (rhs_pos e k)).2 h
 unfold nearN
 split <;> omega
theorem near_le {m c : Nat} {e k : Int} (h : lhs m e k < c * rhs e k) : nearN m e k ≤ c := by
 have h1 : lhs m e k / rhs e k < c := (Nat.div_lt_iff_lt_mul (rhs_pos e k)).2 h
 unfold nearN
 split <;> omega
theorem near_dex {m : Nat} {e n D : Int} (hD : Dex m e D) (hn : 1 ≤ n) : 10 ^ (n.toNat - 1) ≤ nearN m e (D - n) ∧ nearN m e (D - n) ≤ 10 ^ n.toNat := by
 constructor
 ·apply near_ge
  have h := hD.1
  unfold rch at h
  rw [decide_eq_true_iff] at h
  have := scale_ge (m := m) (c := 1) (e := e) (k := D - n) (n.toNat - 1) (by rw [Nat.one_mul, show D - n + ((n.toNat - 1 : Nat) : Int) = D - 1 by omega]; exact h)
  rw [Nat.one_mul] at this
  exact this
 ·apply near_le
  have h := hD.2
  unfold rch at h
  rw [decide_eq_false_iff_not] at h
  have := scale_lt (m := m) (c := 1) (e := e) (k := D - n) n.toNat (by rw [Nat.one_mul, show D - n + (n.toNat : Int) = D by omega]; omega)
  rw [Nat.one_mul] at this
  exact this
theorem drop_head (l m : List UInt8) (x : UInt8) (h : l.dropWhile (· == 48) = x :: m) : x ≠ 48 := by
 induction l with
 | nil => cases h
 | cons a b ih =>
  rw [List.dropWhile_cons] at h
  by_cases k : a = 48
  ·rw [if_pos (by simpa using k)] at h; exact ih h
  ·rw [if_neg (by simpa using k)] at h
   cases h
   exact k
theorem textN_trim {v : Nat} (h : v ≠ 0) : trim0 (Num.textN v) = Num.textN v := by
 unfold Num.textN
 rw [if_neg h]
 generalize (Num.pcs v).reverse.flatMap Num.dg9 = l
 cases hl : l.dropWhile (· == 48) with
 | nil => rfl
 | cons x m =>
  unfold trim0
  rw [List.dropWhile_cons, if_neg (by simpa using drop_head l m x hl)]
theorem textN_pow {v : Nat} (h : v ≠ 0) : 10 ^ ((Num.textN v).length - 1) ≤ v ∧ v < 10 ^ (Num.textN v).length := by
 have hd := Pure.textN_digs v
 have h1 := trim_pos hd (by rw [textN_trim h]; exact textN_ne v)
 have h2 := Num.decL_lt _ (Num.digs_mem hd)
 rw [textN_trim h, Pure.textN_dec] at h1
 rw [Pure.textN_dec] at h2
 exact ⟨h1, h2⟩
theorem textN_size {v k : Nat} (h1 : 10 ^ k ≤ v) (h2 : v < 10 ^ (k + 1)) : (Num.textN v).length = k + 1 := by
 have hp : 0 < 10 ^ k := Nat.pow_pos (by decide)
 obtain ⟨a, b⟩ := textN_pow (v := v) (by omega)
 have c1 : k < (Num.textN v).length := by
  rcases Nat.lt_or_ge k (Num.textN v).length with c | c
  ·exact c
  ·have := Nat.pow_le_pow_right (show 0 < 10 by decide) c
   omega
 have c2 : (Num.textN v).length - 1 < k + 1 := by
  rcases Nat.lt_or_ge ((Num.textN v).length - 1) (k + 1) with c | c
  ·exact c
  ·have := Nat.pow_le_pow_right (show 0 < 10 by decide) c
   omega
 omega
theorem pow_pred {n : Int} (hn : 1 ≤ n) : ∃ k, n.toNat = k + 1 ∧ n.toNat - 1 = k ∧ (n : Int) = k + 1 := ⟨n.toNat - 1, by omega, rfl, by omega⟩
theorem near_text {m : Nat} {e n D : Int} (hD : Dex m e D) (hn : 1 ≤ n) :
  ((Num.textN (nearN m e (D - n))).length = n.toNat ∧ nearN m e (D - n) < 10 ^ n.toNat) ∨ ((Num.textN (nearN m e (D - n))).length = n.toNat + 1 ∧ nearN m e (D - n) = 10 ^ n.toNat) := by
 obtain ⟨h1, h2⟩ := near_dex hD hn
 obtain ⟨k, k1, k2, k3⟩ := pow_pred hn
 rw [k2] at h1
 rcases Nat.lt_or_ge (nearN m e (D - n)) (10 ^ n.toNat) with c | c
 ·left
  rw [k1] at c ⊢
  exact ⟨textN_size h1 c, c⟩
 ·right
  have hq : nearN m e (D - n) = 10 ^ n.toNat := Nat.le_antisymm h2 c
  refine ⟨?_, hq⟩
  apply textN_size c
  rw [hq, Nat.pow_succ]
  have : 0 < 10 ^ n.toNat := Nat.pow_pos (by decide)
  omega
theorem repText_size {a : Nat} (hf : ffin a = true) {n : Int} (hn : 1 ≤ n) : (repText a n).length = n.toNat := by
 unfold repText
 split
 ·rw [List.length_replicate]
 ·have hz : fmant a ≠ 0 := by assumption
  unfold repT
  rw [List.length_take]
  rcases near_text (rep_dex hf hz) hn with ⟨h, _⟩ | ⟨h, _⟩ <;> rw [h] <;> omega
end Go.Flt
set_option maxHeartbeats 32000000
namespace Go.Flt
def many (n : Int) : Int := min (max n 1) 17
end Go.Flt
namespace Go.Proofs.YtneepokiioefgaaGreatDoor.Dec
open Go.RowKit Go.Flt Go.Read PDec Go.Proofs.YtneepokiioefgaaGreatDoor.Pure YtneepokiioefgaaGreatDoorW.PrintWords YtneepokiioefgaaGreatDoorW.PrintLast YtneepokiioefgaaGreatDoorW.PrintMore
attribute [local go_sem] max2_int min2_int max_two min_two max_three min_three max_four min_four
def zero1 (l : List UInt8) : Bool := l.head? == some 48
def oddV (a : Nat) : List UInt8 := if a = 9218868437227405312 then [73, 110, 102] else if a = 18442240474082181120 then [45, 73, 110, 102] else [78, 97, 78]
def shownV (a : Nat) (r : List UInt8) : List UInt8 := if ffin a then (if fneg a then 45 :: r else r) else oddV a
theorem head_fact {l : List UInt8} (h : l ≠ []) : ∃ c : Nat, (∀ h, ((bs l)[0]'h).toNat = c) ∧ ((c : Int) == 48) = zero1 l ∧ 0 < (bs l).size := by
 match l, h with
 | x :: t, _ =>
  refine ⟨x.toNat, fun h => rfl, ?_, by rw [bs_size, List.length_cons]; omega⟩
  unfold zero1
  rw [List.head?_cons]
  by_cases k : x = 48
  ·subst k; rfl
  ·have k1 : ((some x : Option UInt8) == some 48) = false := by simpa using k
   rw [k1, beq_eq_false_iff_ne]
   have k2 : x.toNat ≠ 48 := fun e => k (UInt8.toNat_inj.1 e)
   omega
set_option maxRecDepth 100000 in
theorem s_Neg_inf (w : World) : Calls Tryz.prog 50 #[.int .u64 9218868437227405312] w fun e w' => e = .returned (.int .u64 18442240474082181120) ∧ Below w.heap.size w w' := by
 have HN : Aside0 (∀ w, Calls Tryz.prog 65 #[.int .u64 9218868437227405312] w fun e w' => e = .returned (.bool false) ∧ Drawn0 w w') := ⟨fun w => s_isNaN w 9218868437227405312 (by decide)⟩
 have hx : bits .xor .u64 9218868437227405312 9223372036854775808 = 18442240474082181120 := by decide +kernel
 have HB := md_ (Below.refl w.heap.size w)
 go_enter Tryz.func50, Tryz.ntmps50
 go_wp2_with (go_at_call 65; (with_reducible refine (HN.out _).mono ?_); rintro e w' ⟨rfl, ⟨nd, rfl⟩⟩)
 go_ret
 exact ⟨by first | rfl | rw [hx], by repeat (first | exact HB.out | apply pw_below_drewN)⟩
set_option maxRecDepth 100000 in
theorem d_shown_science (w : World) (a : Nat) (ha : a < 18446744073709551616) (hf : ffin a = true) (n : Int) (r : List UInt8) (hr : r.length ≤ 1000000) (w0 : World) (hw0 : Below w0.heap.size w0 w)
  (HF : ∀ w, Below w0.heap.size w0 w → Calls Tryz.prog 37 #[.string (bs (repText a (many n))), .int .i64 (repExp a (many n)), .int .i64 (many n), .bool (zero1 (repText a (many n)))] w fun x w' => x = .returned (.string (bs r)) ∧ Below w.heap.size w w') :
  Calls Tryz.prog 36 #[.int .u64 (a : Int), .int .i64 n, .func (.func 37) #[] #[]] w fun x w' => x = .returned (.string (bs (if fneg a then 45 :: r else r))) ∧ Below w0.heap.size w0 w' := by
 obtain ⟨mx, hm0⟩ : ∃ z, max n 1 = z := ⟨_, rfl⟩
 obtain ⟨m, hm⟩ : ∃ z, min mx 17 = z := ⟨_, rfl⟩
 have hmm : many n = m := by unfold many; rw [hm0, hm]
 have hm1 : (if n < 1 then 1 else n) = mx := by rw [← hm0]; split <;> omega
 have hm2 : (if 17 < mx then 17 else mx) = m := by rw [← hm]; split <;> omega
 rw [hmm] at HF
 have HR := md_ (fun w => d_Rep w a ha hf m (by omega) (by omega))
 obtain ⟨c0, hc1, hc2, hc3⟩ := head_fact (repText_ne (a := a) (n := m) (by omega))
 obtain ⟨t, ht⟩ : ∃ z, bs (repText a m) = z := ⟨_, rfl⟩
 have hc4 : decide ((c0 : Int) = 48) = zero1 (repText a m) := by rw [← hc2]; exact (Bool.beq_eq_decide_eq _ _).symm
 obtain ⟨zf, hzf⟩ : ∃ z, zero1 (repText a m) = z := ⟨_, rfl⟩
 obtain ⟨x, hx⟩ : ∃ z, repExp a m = z := ⟨_, rfl⟩
 obtain ⟨aa, haa⟩ : ∃ z : Int, (a : Int) = z := ⟨_, rfl⟩
 obtain ⟨neg, hneg⟩ : ∃ z, fneg a = z := ⟨_, rfl⟩
 obtain ⟨u, hu⟩ : ∃ z, bs r = z := ⟨_, rfl⟩
 have hcat : ⟨#[45]⟩ ++ u = bs (45 :: r) := by rw [← hu]; apply ByteArray.ext; simp [bs]
 have hsz : ¬ 9223372036854775807 < 1 + u.size := by rw [← hu, bs_size]; omega
 rw [ht, hx, hzf, hu] at HF
 rw [ht, hx, haa, hneg] at HR
 rw [ht] at hc1 hc3
 rw [hzf] at hc2 hc4
 have hc5 : (0 : Int) < (t.size : Nat) := by omega
 rw [haa, hneg]
 have HFF := md_ HF
 have HB := md_ hw0
 obtain ⟨v, hv⟩ : ∃ z, bs (45 :: r) = z := ⟨_, rfl⟩
 rw [hv] at hcat
 have hres : ∀ b : Bool, bs (if b then 45 :: r else r) = if b then v else u := fun b => by cases b; exact hu; exact hv
 rw [hres]
 have HH := md_ (fun (w1 w2 : World) (h : Below w1.heap.size w1 w2) (k : Below w0.heap.size w0 w1) => below_step k h)
 clear HF hw0 ht hx hzf hu haa hneg hv hres ha hf hmm hr
 cases neg with
 | false =>
  go_enter Tryz.func36, Tryz.ntmps36
  go_upto_region 10 with (go_at_call 49; (with_reducible refine (HR.out _).mono ?_); rintro q w' ⟨rfl, hb⟩; replace HB := md_ (HH.out _ _ hb HB.out); clear hb)
  obtain ⟨g, hg⟩ : ∃ g, w'.heap.size = g := ⟨_, rfl⟩
  generalize hW : w'.alloc (Obj.cells #[Value.string t, Value.int .i64 x, Value.bool false] 87) = W1
  have BK := md_ (show W1.heap[g]? = some (.cells #[.string t, .int .i64 x, .bool false] 87 (0, 0)) by rw [← hW, ← hg]; exact blk_new _ _)
  replace HB := md_ (show Below w0.heap.size w0 W1 by rw [← hW]; exact below_alloc HB.out _)
  clear hW
  rw [hg]
  clear hg
  have z0 := (blk_cell BK.out 0).trans (show _ = some (Value.string t) from rfl)
  have z1 := (blk_cell BK.out 1).trans (show _ = some (Value.int .i64 x) from rfl)
  have z2 := (blk_cell BK.out 2).trans (show _ = some (Value.bool false) from rfl)
  go_region_held3 (fun w' => w'.cell? ⟨g, 0, none⟩ = some (.string t) ∧ w'.cell? ⟨g, 1, none⟩ = some (.int .i64 x) ∧ w'.cell? ⟨g, 2, none⟩ = some (.bool false) ∧ Below w0.heap.size w0 w')
   (((try go_split_ands); refine ⟨?_, ?_, ?_, ?_⟩ <;> first
    | assumption
    | exact HB.out
    | exact pw_cell_below hb_ (by assumption)
    | exact pw_cell_below (below_drew (Below.refl _ _)) (by assumption)
    | exact below_drew (by assumption)
    | exact below_drew HB.out
    | exact Below.trans (by assumption) (hb_.mono (Below.size (by assumption)))))
   ((go_at_call 37; go_split_ands; (refine (HFF.out _ (by assumption)).mono ?_); rintro q w2 ⟨rfl, hb_⟩))
  (try go_split_ands)
  go_wp2
  go_ret
  exact ⟨rfl, by assumption⟩
 | true =>
  go_enter Tryz.func36, Tryz.ntmps36
  go_upto_region 10 with (go_at_call 49; (with_reducible refine (HR.out _).mono ?_); rintro q w' ⟨rfl, hb⟩; replace HB := md_ (HH.out _ _ hb HB.out); clear hb)
  obtain ⟨g, hg⟩ : ∃ g, w'.heap.size = g := ⟨_, rfl⟩
  generalize hW : w'.alloc (Obj.cells #[Value.string t, Value.int .i64 x, Value.bool true] 87) = W1
  have BK := md_ (show W1.heap[g]? = some (.cells #[.string t, .int .i64 x, .bool true] 87 (0, 0)) by rw [← hW, ← hg]; exact blk_new _ _)
  replace HB := md_ (show Below w0.heap.size w0 W1 by rw [← hW]; exact below_alloc HB.out _)
  clear hW
  rw [hg]
  clear hg
  have z0 := (blk_cell BK.out 0).trans (show _ = some (Value.string t) from rfl)
  have z1 := (blk_cell BK.out 1).trans (show _ = some (Value.int .i64 x) from rfl)
  have z2 := (blk_cell BK.out 2).trans (show _ = some (Value.bool true) from rfl)
  go_region_held3 (fun w' => w'.cell? ⟨g, 0, none⟩ = some (.string t) ∧ w'.cell? ⟨g, 1, none⟩ = some (.int .i64 x) ∧ w'.cell? ⟨g, 2, none⟩ = some (.bool true) ∧ Below w0.heap.size w0 w')
   (((try go_split_ands); refine ⟨?_, ?_, ?_, ?_⟩ <;> first
    | assumption
    | exact HB.out
    | exact pw_cell_below hb_ (by assumption)
    | exact pw_cell_below (below_drew (Below.refl _ _)) (by assumption)
    | exact below_drew (by assumption)
    | exact below_drew HB.out
    | exact Below.trans (by assumption) (hb_.mono (Below.size (by assumption)))))
   ((go_at_call 37; go_split_ands; (refine (HFF.out _ (by assumption)).mono ?_); rintro q w2 ⟨rfl, hb_⟩))
  (try go_split_ands)
  go_wp2
  go_ret
  exact ⟨rfl, by assumption⟩
set_option maxRecDepth 100000 in
theorem d_shown_odd (w : World) (a : Nat) (ha : a < 18446744073709551616) (hf : ffin a = false) (n : Int) (F : Nat) :
  Calls Tryz.prog 36 #[.int .u64 (a : Int), .int .i64 n, .func (.func F) #[] #[]] w fun x w' => x = .returned (.string (bs (oddV a))) ∧ Below w.heap.size w w' := by
 obtain ⟨mx, hm0⟩ : ∃ z, max n 1 = z := ⟨_, rfl⟩
 obtain ⟨m, hm⟩ : ∃ z, min mx 17 = z := ⟨_, rfl⟩
 have hm1 : (if n < 1 then 1 else n) = mx := by rw [← hm0]; split <;> omega
 have hm2 : (if 17 < mx then 17 else mx) = m := by rw [← hm]; split <;> omega
 have HR := md_ (fun w => d_Rep_bad w a ha m (.inr (.inr hf)))
 have HN := md_ (fun w => s_Neg_inf w)
 have HB := md_ (Below.refl w.heap.size w)
 obtain ⟨aa, haa⟩ : ∃ z : Int, (a : Int) = z := ⟨_, rfl⟩
 rw [haa] at HR ⊢
 unfold oddV
 by_cases h1 : a = 9218868437227405312
 ·have c1 : aa = 9218868437227405312 := by omega
  rw [if_pos h1]
  have hb : bs [73, 110, 102] = ⟨#[73, 110, 102]⟩ := rfl
  rw [hb]
  subst c1
  clear ha hf h1 haa hb
  go_enter Tryz.func36, Tryz.ntmps36
  go_wp2_with (go_at_call 49; (with_reducible refine (HR.out _).mono ?_); rintro q w' ⟨rfl, hb⟩; replace HB := bt_ HB hb; clear hb)
  go_ret
  exact ⟨rfl, by repeat (first | exact HB.out | apply below_alloc)⟩
 have c1 : (aa == 9218868437227405312) = false := by rw [beq_eq_false_iff_ne]; omega
 have c2 : decide (aa = 9218868437227405312) = false := decide_eq_false (by omega)
 have c3 : ¬ aa = 9218868437227405312 := by omega
 rw [if_neg h1]
 by_cases h2 : a = 18442240474082181120
 ·have c4 : aa = 18442240474082181120 := by omega
  rw [if_pos h2]
  have hb : bs [45, 73, 110, 102] = ⟨#[45, 73, 110, 102]⟩ := rfl
  rw [hb]
  subst c4
  clear ha hf h1 h2 haa hb c1 c2 c3
  go_enter Tryz.func36, Tryz.ntmps36
  go_wp2_with (first | (go_at_call 49; (with_reducible refine (HR.out _).mono ?_); rintro q w' ⟨rfl, hb⟩; replace HB := bt_ HB hb; clear hb) | (go_at_call 50; (with_reducible refine (HN.out _).mono ?_); rintro q w' ⟨rfl, hb⟩; replace HB := md_ (below_step (below_alloc HB.out _) hb); clear hb))
  go_ret
  exact ⟨rfl, by repeat (first | exact HB.out | apply below_alloc)⟩
 ·have c4 : (aa == 18442240474082181120) = false := by rw [beq_eq_false_iff_ne]; omega
  have c5 : decide (aa = 18442240474082181120) = false := decide_eq_false (by omega)
  have c6 : ¬ aa = 18442240474082181120 := by omega
  rw [if_neg h2]
  have hb : bs [78, 97, 78] = ⟨#[78, 97, 78]⟩ := rfl
  rw [hb]
  clear ha hf h1 h2 haa hb
  go_enter Tryz.func36, Tryz.ntmps36
  go_wp2_with (first | (go_at_call 49; (with_reducible refine (HR.out _).mono ?_); rintro q w' ⟨rfl, hb⟩; replace HB := bt_ HB hb; clear hb) | (go_at_call 50; (with_reducible refine (HN.out _).mono ?_); rintro q w' ⟨rfl, hb⟩; replace HB := md_ (below_step (below_alloc HB.out _) hb); clear hb))
  go_ret
  exact ⟨rfl, by repeat (first | exact HB.out | apply below_alloc)⟩
theorem many_bound (n : Int) : 1 ≤ many n ∧ many n ≤ 17 := by unfold many; omega
end Go.Proofs.YtneepokiioefgaaGreatDoor.Dec
set_option maxHeartbeats 32000000
namespace Go.Proofs.YtneepokiioefgaaGreatDoor.Dec
open Go.RowKit PNat Go.Proofs.YtneepokiioefgaaGreatDoor.Pure YtneepokiioefgaaGreatDoorW.PrintWords YtneepokiioefgaaGreatDoorW.PrintLast YtneepokiioefgaaGreatDoorW.PrintMore
section
variable {w : World} {v u : Value} {a b : Nat}
theorem r_Add (h0 : Nm w v a) (h1 : Nm w u b) (fa : Fit a) (fb : Fit b) :
  Calls Tryz.prog 106 #[v, u] w fun e w' => ∃ r, e = .returned r ∧ Nm w' r (a + b) ∧ Below w.heap.size w w' := by
 obtain ⟨A, c, rfl, l0, g0, _⟩ := h0.open
 obtain ⟨A1, c1, rfl, l1, g1, _⟩ := h1.open
 have he := ev_radd (Num.wordsN a) (Num.wordsN b) (Num.wordsN_ok a) (Num.wordsN_ok b) (by unfold Fit at fa; omega) (by unfold Fit at fb; omega)
 rw [Num.wordsN_val, Num.wordsN_val] at he
 obtain ⟨k, hk⟩ := Ev.at he
 refine (bobbinref2_Add.calls k _ _ _ _ _ _ _ w g0 l0 g1 l1 hk).mono ?_
 rintro e w' ⟨v, rfl, h1, h2⟩
 exact ⟨v, rfl, Nm.of_R h1, h2⟩
theorem r_Bits (h0 : Nm w v a) (fa : Fit a) :
  Calls Tryz.prog 74 #[v] w fun e w' => e = .returned (.int .i64 (Num.bitsN a : Nat)) ∧ Below w.heap.size w w' := by
 obtain ⟨A, c, rfl, l0, g0, _⟩ := h0.open
 have he := ev_rbits (Num.wordsN a) (Num.wordsN_ok a) (by unfold Fit at fa; omega)
 rw [Num.wordsN_val] at he
 obtain ⟨k, hk⟩ := Ev.at he
 exact bobbinref2_Bits.calls k _ _ _ _ w g0 l0 hk
theorem r_Text (h0 : Nm w v a) (fa : Fit a) :
  Calls Tryz.prog 57 #[v] w fun e w' => e = .returned (.string ⟨(Num.textN a).toArray⟩) ∧ Below w.heap.size w w' := by
 obtain ⟨A, c, rfl, l0, g0, _⟩ := h0.open
 have he := ev_rtext (Num.wordsN a) (Num.wordsN_ok a) (by unfold Fit at fa; omega)
 rw [Num.wordsN_val] at he
 obtain ⟨k, hk⟩ := Ev.at he
 exact bobbinref2_Text.calls k _ _ _ _ w g0 l0 hk
theorem r_Norm {A : Option Addr} {c : Nat} {l : List Int} (hr : Kd.C (Kd.int .u32) w A l.length l) (hc : l.length ≤ c) (ok : Num.okW l) (hl : l.length ≤ 100000) :
  Calls Tryz.prog 77 #[.slice A l.length c] w fun e w' => ∃ r, e = .returned r ∧ Nm w' r (Num.valN l) ∧ Below w.heap.size w w' := by
 have he := ev_rnorm l (by omega)
 rw [Num.trim_words ok] at he
 obtain ⟨k, hk⟩ := Ev.at he
 refine (bobbinref2_Norm.calls k _ _ _ _ w hr hc hk).mono ?_
 rintro e w' ⟨v, rfl, h1, h2⟩
 exact ⟨v, rfl, Nm.of_R h1, h2⟩
theorem Ev.same {α : Type} {f : Nat → Option α} {x y : α} (h : Ev f x) (k : Ev f y) : x = y := by
 obtain ⟨K, hK⟩ := h
 obtain ⟨M, hM⟩ := k
 have h1 := hK (max K M) (Nat.le_max_left _ _)
 rw [hM (max K M) (Nat.le_max_right _ _)] at h1
 exact (Option.some.inj h1).symm
end
end Go.Proofs.YtneepokiioefgaaGreatDoor.Dec
set_option maxHeartbeats 32000000
namespace Go.Div
open Go.Proofs.YtneepokiioefgaaGreatDoor
def hi (l : List Int) (j : Nat) : Nat := Num.valN (l.drop j)
theorem hi_zero (l : List Int) : hi l 0 = Num.valN l := rfl
theorem hi_end (l : List Int) : hi l l.length = 0 := by
 unfold hi
 rw [List.drop_length]
 rfl
theorem hi_step {l : List Int} {i : Nat} (h : i < l.length) : hi l i = (l[i]).toNat + 4294967296 * hi l (i + 1) := by
 unfold hi
 rw [List.drop_eq_getElem_cons h]
 rfl
theorem hi_set {l : List Int} {i : Nat} (h : i < l.length) (y : Int) : hi (l.set i y) i = y.toNat + 4294967296 * hi l (i + 1) := by
 rw [hi_step (by rw [List.length_set]; exact h)]
 congr 1
 ·rw [List.getElem_set_self]
 ·unfold hi
  rw [List.drop_set_of_lt (by omega)]
theorem step_div {h w d : Nat} (hd : 0 < d) : (w + 4294967296 * h) / d = (h % d * 4294967296 + w) / d + 4294967296 * (h / d) ∧ (w + 4294967296 * h) % d = (h % d * 4294967296 + w) % d := by
 have e : w + 4294967296 * h = (h % d * 4294967296 + w) + d * (4294967296 * (h / d)) := by
  have := Nat.div_add_mod h d
  generalize h / d = q at *
  generalize h % d = r at *
  subst this
  rw [Nat.mul_add, Nat.mul_left_comm d]
  omega
 rw [e]
 exact ⟨Nat.add_mul_div_left _ _ hd, Nat.add_mul_mod_self_left _ _ _⟩
theorem step_lt {r w d : Nat} (hr : r < d) (hw : w < 4294967296) : (r * 4294967296 + w) / d < 4294967296 := by
 rw [Nat.div_lt_iff_lt_mul (by omega)]
 have : (r + 1) * 4294967296 ≤ d * 4294967296 := Nat.mul_le_mul_right _ hr
 rw [Nat.mul_comm 4294967296]
 omega
end Go.Div
set_option maxHeartbeats 32000000
namespace Go.Div
open Go.Proofs.YtneepokiioefgaaGreatDoor
theorem valN_cons (x : Int) (t : List Int) : Num.valN (x :: t) = x.toNat + 4294967296 * Num.valN t := rfl
theorem valN_set {l : List Int} {i : Nat} (h : i < l.length) (y : Int) : Num.valN (l.set i y) + (l[i]).toNat * 4294967296 ^ i = Num.valN l + y.toNat * 4294967296 ^ i := by
 induction l generalizing i with
 | nil => exact absurd h (by simp)
 | cons x t ih =>
  cases i with
  | zero =>
   show Num.valN (y :: t) + x.toNat * 4294967296 ^ 0 = Num.valN (x :: t) + y.toNat * 4294967296 ^ 0
   rw [valN_cons, valN_cons, Nat.pow_zero]
   omega
  | succ i =>
   have hi : i < t.length := by simpa using h
   have := ih hi
   show Num.valN (x :: t.set i y) + (t[i]).toNat * 4294967296 ^ (i + 1) = Num.valN (x :: t) + y.toNat * 4294967296 ^ (i + 1)
   rw [valN_cons, valN_cons, Nat.pow_succ]
   generalize 4294967296 ^ i = p at *
   generalize Num.valN (t.set i y) = u at *
   generalize Num.valN t = v at *
   generalize (t[i]).toNat = a at *
   generalize y.toNat = b at *
   rw [← Nat.mul_assoc, ← Nat.mul_assoc, Nat.mul_comm (a * p), Nat.mul_comm (b * p)]
   omega
theorem valN_zeros (n : Nat) : Num.valN (List.replicate n 0) = 0 := by
 induction n with
 | zero => rfl
 | succ n ih => rw [List.replicate_succ, valN_cons, ih]; rfl
theorem valN_take {l : List Int} {i : Nat} (h : i < l.length) : Num.valN (l.take (i + 1)) = Num.valN (l.take i) + (l[i]).toNat * 4294967296 ^ i := by
 induction l generalizing i with
 | nil => exact absurd h (by simp)
 | cons x t ih =>
  cases i with
  | zero =>
   rw [List.take_succ_cons, List.take_zero, List.take_zero, valN_cons, Nat.pow_zero]
   show x.toNat + 4294967296 * 0 = 0 + x.toNat * 1
   omega
  | succ i =>
   have hi : i < t.length := by simpa using h
   have := ih hi
   rw [List.take_succ_cons, List.take_succ_cons, valN_cons, valN_cons, this]
   show _ = _ + (t[i]).toNat * 4294967296 ^ (i + 1)
   rw [Nat.pow_succ]
   generalize 4294967296 ^ i = p at *
   generalize (t[i]).toNat = a at *
   rw [← Nat.mul_assoc, Nat.mul_comm (a * p)]
   omega
theorem okW_set {l : List Int} (ok : Num.okW l) (i : Nat) {y : Int} (h : 0 ≤ y ∧ y < 4294967296) : Num.okW (l.set i y) := by
 intro x hx
 rcases List.mem_or_eq_of_mem_set hx with hx | rfl
 ·exact ok x hx
 ·exact h
theorem okW_zeros (n : Nat) : Num.okW (List.replicate n 0) := by
 intro x hx
 rw [List.eq_of_mem_replicate hx]
 decide
theorem get_nat {l : List Int} (ok : Num.okW l) {i : Nat} (h : i < l.length) : ((l[i]).toNat : Int) = l[i] ∧ (l[i]).toNat < 4294967296 := by
 have := ok _ (List.getElem_mem h)
 omega
end Go.Div
set_option maxHeartbeats 32000000
namespace Go.Proofs.YtneepokiioefgaaGreatDoor.Dec
open Go.RowKit Go.Div PNat Go.Proofs.YtneepokiioefgaaGreatDoor.Pure YtneepokiioefgaaGreatDoorW.PrintWords YtneepokiioefgaaGreatDoorW.PrintLast YtneepokiioefgaaGreatDoorW.PrintMore
theorem r_NormV {w : World} {v : Value} {l : List Int} (h : Kd.V (Kd.int .u32) 119 w 0 (fun _ => True) v l) (ok : Num.okW l) (hl : l.length ≤ 100000) :
  Calls Tryz.prog 77 #[v] w fun e w' => ∃ r, e = .returned r ∧ Nm w' r (Num.valN l) ∧ Below w.heap.size w w' := by
 obtain ⟨A, c, rfl⟩ := Kd.V_slice h
 obtain ⟨_, h2, h3⟩ := Kd.V_reads' h
 exact r_Norm h3 h2 ok hl
theorem V_of {w : World} {base : Nat} {v : Value} {l : List Int} (h : Kd.R (Kd.int .u32) 119 w base (fun _ => True) v l) : Kd.V (Kd.int .u32) 119 w 0 (fun _ => True) v l :=
 Kd.V_mono (Kd.V_map (Kd.R_V (base' := 0) h) (fun _ hf => hf)) (fun _ _ => trivial)
theorem last_word {v n : Nat} (h : (Num.wordsN v).length = n + 1) : ((Num.wordsN v)[n]'(by omega)) ≠ 0 := by
 intro e
 have h1 := Num.val_ge (Num.wordsN_ok v) (Num.wordsN_normed v) n h
 have h2 := valN_take (l := Num.wordsN v) (i := n) (by omega)
 rw [e, List.take_of_length_le (by omega)] at h2
 have h3 := Num.valN_lt (l := (Num.wordsN v).take n) (fun x hx => Num.wordsN_ok v x (List.mem_of_mem_take hx))
 rw [List.length_take, Nat.min_eq_left (by omega)] at h3
 have : (0 : Int).toNat * 4294967296 ^ n = 0 := by rw [Int.toNat_zero, Nat.zero_mul]
 omega
set_option maxRecDepth 100000 in
theorem r_trimmed {w : World} {v : Value} {a : Nat} (h : Nm w v a) : Calls Tryz.prog 78 #[v] w fun e w' => e = .returned v ∧ w' = w := by
 obtain ⟨A, c, rfl, hc, hC, _⟩ := h.open
 have hmx := Kd.C_max hC
 obtain ⟨n, hn⟩ : ∃ n, (Num.wordsN a).length = n := ⟨_, rfl⟩
 rw [hn] at hC hc hmx ⊢
 cases n with
 | zero =>
  clear hn hC h
  go_enter Tryz.func78, Tryz.ntmps78
  go_wp2
  go_loopg [3] 1 (fun kq v3 wr => v3 = .int .i64 0 ∧ wr = w)
  case atStart => exact ⟨rfl, rfl⟩
  case round =>
   obtain ⟨rfl, rfl⟩ := hrel
   go_wp2
   go_ret
   exact ⟨rfl, rfl⟩
 | succ n =>
  have hl := last_word hn
  obtain ⟨ad, hA, hz⟩ := Kd.at_int hC (n : Int) (by omega) (by omega)
  subst hA
  rw [Int.toNat_natCast] at hz
  have hrd : rd (Num.wordsN a) (n : Int) = (Num.wordsN a)[n]'(by omega) := by
   unfold rd
   rw [Int.toNat_natCast, List.getD_eq_getElem?_getD, List.getElem?_eq_getElem (by omega)]
   rfl
  rw [hrd] at hz
  obtain ⟨x, hx⟩ : ∃ x, (Num.wordsN a)[n]'(by omega) = x := ⟨_, rfl⟩
  rw [hx] at hz hl
  obtain ⟨N, hN⟩ : ∃ N : Nat, n + 1 = N := ⟨_, rfl⟩
  rw [hN] at hc hmx ⊢
  have c1 : (0 : Int) < (N : Int) := by omega
  have c2 : wrap64 ((N : Int) - 1) = (n : Int) := by rw [i64_id (by omega) (by omega)]; omega
  have c3 : IntKind.i64.wrap ((N : Int) - 1) = (n : Int) := (i64_w _).trans c2
  have c4 : (0 : Int) ≤ (n : Int) := by omega
  have c5 : (n : Int) < (N : Int) := by omega
  have c6 : (x == 0) = false := by rw [beq_eq_false_iff_ne]; exact hl
  have c7 : (0 : Int) ≤ (N : Int) := by omega
  have c8 : (N : Int) ≤ (c : Int) := by omega
  have c9 := decide_eq_true c1
  clear hn hC h hrd hx hN
  go_enter Tryz.func78, Tryz.ntmps78
  go_wp2
  go_loopg [3] 1 (fun kq v3 wr => v3 = .int .i64 (N : Int) ∧ wr = w)
  case atStart => exact ⟨rfl, rfl⟩
  case round =>
   obtain ⟨rfl, rfl⟩ := hrel
   go_wp2
   go_ret
   exact ⟨rfl, rfl⟩
set_option maxRecDepth 100000 in
theorem r_large {w : World} {v : Value} {a : Nat} (h : Nm w v a) (fa : Fit a) : Calls Tryz.prog 101 #[v] w fun e w' => e = .returned (.bool false) ∧ w' = w := by
 have HT := md_ (r_trimmed h)
 obtain ⟨A, c, rfl, _, _, _⟩ := h.open
 obtain ⟨n, hn⟩ : ∃ n, (Num.wordsN a).length = n := ⟨_, rfl⟩
 have hf : (Num.wordsN a).length ≤ 2000 := fa
 rw [hn] at hf HT
 rw [hn]
 have c1 := decide_eq_false (show ¬ (2000 : Int) < (n : Int) by omega)
 clear hn hf h fa
 go_enter Tryz.func101, Tryz.ntmps101
 go_wp2_with (go_at_call 78; (with_reducible refine HT.out.mono ?_); rintro e w' ⟨rfl, rfl⟩)
 go_ret
 exact ⟨rfl, rfl⟩
theorem wrp {x y : Int} (h : x = y ∧ -9223372036854775808 ≤ y ∧ y ≤ 9223372036854775807) : Aside0 (wrap64 x = y ∧ IntKind.i64.wrap x = y) :=
 have e : wrap64 x = y := by rw [h.1]; exact i64_id h.2.1 h.2.2
 ⟨e, (i64_w _).trans e⟩
end Go.Proofs.YtneepokiioefgaaGreatDoor.Dec
set_option maxHeartbeats 32000000
namespace Go.Div
open Go.Proofs.YtneepokiioefgaaGreatDoor
def MulA (la lb : List Int) (i : Nat) (o : List Int) : Prop :=
 o.length = la.length + lb.length ∧ Num.okW o ∧ Num.valN o = Num.valN (la.take i) * Num.valN lb ∧ ∀ j (h : j < o.length), i + lb.length ≤ j → o[j] = 0
def MulB (la lb : List Int) (p i k c : Nat) (o : List Int) : Prop :=
 o.length = la.length + lb.length ∧ Num.okW o ∧ c < 4294967296 ∧ Num.valN o + c * 4294967296 ^ (i + k) = Num.valN (la.take i) * Num.valN lb + p * 4294967296 ^ i * Num.valN (lb.take k) ∧ ∀ j (h : j < o.length), i + lb.length ≤ j → o[j] = 0
theorem mul_start (la lb : List Int) : MulA la lb 0 (List.replicate (la.length + lb.length) 0) := by
 refine ⟨List.length_replicate, okW_zeros _, ?_, fun j h _ => List.getElem_replicate _⟩
 rw [valN_zeros, List.take_zero]
 show 0 = 0 * _
 rw [Nat.zero_mul]
theorem mul_end {la lb o : List Int} (h : MulA la lb la.length o) : Num.valN o = Num.valN la * Num.valN lb := by
 rw [h.2.2.1, List.take_length]
theorem mul_in {la lb o : List Int} {i : Nat} (p : Nat) (h : MulA la lb i o) : MulB la lb p i 0 0 o := by
 refine ⟨h.1, h.2.1, by decide, ?_, h.2.2.2⟩
 rw [List.take_zero, h.2.2.1]
 show _ + 0 * _ = _ + _ * 0
 rw [Nat.zero_mul, Nat.mul_zero]
theorem mul_step {la lb o : List Int} {p i k c b z x : Nat} (hi : i < la.length) (hk : k < lb.length) (okb : Num.okW lb) (hp : p < 4294967296) (h : MulB la lb p i k c o) (hb : (lb[k]).toNat = b) (hz : ∀ h : i + k < o.length, (o[i + k]).toNat = z) (hx : c + p * b + z = x) :
  x < 18446744073709551616 ∧ MulB la lb p i (k + 1) (x / 4294967296) (o.set (i + k) ((x % 4294967296 : Nat) : Int)) := by
 obtain ⟨h1, h2, h3, h4, h5⟩ := h
 have i1 : i + k < o.length := by omega
 have hz' := hz i1
 have hzb : z < 4294967296 := by rw [← hz']; exact (get_nat h2 i1).2
 have hbb : b < 4294967296 := by rw [← hb]; exact (get_nat okb hk).2
 have hpb : p * b ≤ 4294967295 * 4294967295 := Nat.mul_le_mul (by omega) (by omega)
 have hxb : x < 18446744073709551616 := by omega
 refine ⟨hxb, by rw [List.length_set]; exact h1, okW_set h2 _ (by omega), by omega, ?_, fun j hj hlt => ?_⟩
 ·have e1 := valN_set i1 ((x % 4294967296 : Nat) : Int)
  rw [hz', Int.toNat_natCast] at e1
  rw [valN_take hk, hb, Nat.mul_add, ← Nat.add_assoc (Num.valN (la.take i) * Num.valN lb), ← h4, show i + (k + 1) = i + k + 1 by omega, Nat.pow_succ]
  have e3 : p * 4294967296 ^ i * (b * 4294967296 ^ k) = p * b * 4294967296 ^ (i + k) := by
   rw [Nat.pow_add]
   generalize 4294967296 ^ k = s
   generalize 4294967296 ^ i = t
   rw [Nat.mul_assoc, Nat.mul_assoc, Nat.mul_left_comm t b s]
  rw [e3]
  generalize 4294967296 ^ (i + k) = P at *
  have e4 : x * P = (x % 4294967296) * P + x / 4294967296 * (P * 4294967296) := by
   conv => lhs; rw [← Nat.mod_add_div x 4294967296, Nat.add_mul]
   congr 1
   rw [Nat.mul_comm 4294967296, Nat.mul_assoc, Nat.mul_comm 4294967296]
  have e5 : x * P = c * P + p * b * P + z * P := by rw [← hx, Nat.add_mul, Nat.add_mul]
  omega
 ·rw [List.length_set] at hj
  rw [List.getElem_set_ne (by omega)]
  exact h5 j hj hlt
theorem mul_out {la lb o : List Int} {p i c : Nat} (hi : i < la.length) (hp : (la[i]).toNat = p) (h : MulB la lb p i lb.length c o) : MulA la lb (i + 1) (o.set (i + lb.length) (c : Int)) := by
 obtain ⟨h1, h2, h3, h4, h5⟩ := h
 have i1 : i + lb.length < o.length := by omega
 refine ⟨by rw [List.length_set]; exact h1, okW_set h2 _ (by omega), ?_, fun j hj hlt => ?_⟩
 ·have e1 := valN_set i1 (c : Int)
  rw [h5 _ i1 (Nat.le_refl _), Int.toNat_zero, Nat.zero_mul, Nat.add_zero, Int.toNat_natCast] at e1
  rw [e1, h4, valN_take hi, hp, List.take_length, Nat.add_mul]
 ·rw [List.length_set] at hj
  rw [List.getElem_set_ne (by omega)]
  exact h5 j hj (by omega)
end Go.Div
set_option maxHeartbeats 32000000
namespace Go.Proofs.YtneepokiioefgaaGreatDoor.Dec
open Go.RowKit Go.Div PNat Go.Proofs.YtneepokiioefgaaGreatDoor.Pure YtneepokiioefgaaGreatDoorW.PrintWords YtneepokiioefgaaGreatDoorW.PrintLast YtneepokiioefgaaGreatDoorW.PrintMore
set_option maxRecDepth 100000 in
theorem r_Mul {w : World} {v u : Value} {a b : Nat} (h0 : Nm w v a) (h1 : Nm w u b) (fa : Fit a) (fb : Fit b) (hf : Fit (a * b)) :
  Calls Tryz.prog 102 #[v, u] w fun e w' => ∃ r, e = .returned (.tuple #[r, .int .i64 0]) ∧ Nm w' r (a * b) ∧ Below w.heap.size w w' := by
 have L0 := md_ (r_large h0 fa)
 have L1 := md_ (r_large h1 fb)
 have T0 := md_ (r_trimmed h0)
 have T1 := md_ (r_trimmed h1)
 obtain ⟨A, c, rfl, hlc, hC, _⟩ := h0.open
 obtain ⟨A1, cb, rfl, hlc1, hC1, _⟩ := h1.open
 obtain ⟨la, hla⟩ : ∃ l, Num.wordsN a = l := ⟨_, rfl⟩
 obtain ⟨lb, hlb⟩ : ∃ l, Num.wordsN b = l := ⟨_, rfl⟩
 have hok := Num.wordsN_ok a
 have hok1 := Num.wordsN_ok b
 have hval := Num.wordsN_val a
 have hval1 := Num.wordsN_val b
 have hlen : (Num.wordsN a).length ≤ 2000 := fa
 have hlen1 : (Num.wordsN b).length ≤ 2000 := fb
 rw [hla] at hC hlc hok hval hlen L0 T0
 rw [hlb] at hC1 hlc1 hok1 hval1 hlen1 L1 T1
 rw [hla, hlb]
 obtain ⟨n, hn⟩ : ∃ n, la.length = n := ⟨_, rfl⟩
 obtain ⟨m, hm⟩ : ∃ n, lb.length = n := ⟨_, rfl⟩
 rw [hn] at hC hlc hlen L0 T0
 rw [hm] at hC1 hlc1 hlen1 L1 T1
 rw [hn, hm]
 have HC := md_ hC
 have HC1 := md_ hC1
 have HOK := md_ hok
 have HOK1 := md_ hok1
 have HN := md_ (show (la.length = n ∧ n ≤ 2000) ∧ lb.length = m ∧ m ≤ 2000 from ⟨⟨hn, hlen⟩, hm, hlen1⟩)
 have HV := md_ (show Num.valN la = a ∧ Num.valN lb = b from ⟨hval, hval1⟩)
 have HF := md_ hf
 have HB := md_ (Below.refl w.heap.size w)
 obtain ⟨N, hN⟩ : ∃ z, n + m = z := ⟨_, rfl⟩
 have Z1 := wrp (x := (n : Int) + (m : Int)) (y := (N : Int)) (by omega)
 have HNN := md_ hN
 have o1 : (0 : Int) ≤ (N : Int) := by omega
 have o2 : ((N : Int)).toNat ≤ 70368744177664 := by omega
 have p1 := decide_eq_true o1
 have p2 := decide_eq_true o2
 have HS0 := mul_start la lb
 rw [hn, hm, hN] at HS0
 have HSS := md_ HS0
 clear h0 h1 fa fb hla hlb hok hok1 hval hval1 hlen hlen1 hn hm hlc hlc1 hC hC1 hf hN HS0
 obtain ⟨z3, z4⟩ := Z1.out
 clear Z1
 go_enter Tryz.func102, Tryz.ntmps102
 go_wp2_with (first
  | (go_at_call 101; (with_reducible refine L0.out.mono ?_); rintro e w' ⟨rfl, hw⟩; obtain rfl := hw.symm)
  | (go_at_call 101; (with_reducible refine L1.out.mono ?_); rintro e w' ⟨rfl, hw⟩; obtain rfl := hw.symm)
  | (go_at_call 78; (with_reducible refine T0.out.mono ?_); rintro e w' ⟨rfl, hw⟩; obtain rfl := hw.symm)
  | (go_at_call 78; (with_reducible refine T1.out.mono ?_); rintro e w' ⟨rfl, hw⟩; obtain rfl := hw.symm)
  | ((with_reducible refine gate_dst (N := 25) rfl ?_); refine Kd.R_make (Kd.int .u32) _ 119 rfl (N := 25) rfl 96 _ _ rfl (N : Int) rfl rfl Tryz.underlying96 (.int .u32 0) 4 info119 rfl (by decide) (by omega) 0 (ok := fun _ => True) (okp := fun _ => True) rfl (fun _ hk => hk) trivial o1 (Nat.le_trans (Nat.mul_le_mul_right _ o2) (by omega)) (Below.refl _ _) (Nat.le_refl _) ?_; intro vq wq ho hb hg_ hnew_; clear hg_ hnew_; have HO := md_ (Kd.R_lower ho (below_size HB.out)); have n1_ := md_ (below_step HB.out hb); clear HB; have HB := n1_; clear n1_; clear hb ho))
 rw [Int.toNat_natCast] at HO
 go_loopg [7] n (fun kq v7 wr => ∃ (i : Nat) (x : List Int), v7 = .int .i64 (i : Int) ∧ Aside0 (i + kq = n) ∧ Aside0 (MulA la lb i x) ∧ Aside0 (Kd.R (Kd.int .u32) 119 wr w.heap.size (fun _ => True) vq x) ∧ Aside0 (Below w.heap.size w wr))
 case atStart => exact ⟨0, List.replicate N 0, rfl, ⟨Nat.zero_add n⟩, HSS, HO, HB⟩
 case round =>
  clear HO HB HSS
  obtain ⟨i, x, rfl, HK, HS, HO, HB⟩ := hrel
  cases gk with
  | zero =>
   have hk : i = n := HK.out
   subst hk
   have hvx : Num.valN x = a * b := by
    have h := HS.out
    rw [← HN.out.1.1] at h
    rw [mul_end h, HV.out.1, HV.out.2]
   have HN1 := md_ (fun (wq : World) (hx : Kd.R (Kd.int .u32) 119 wq w.heap.size (fun _ => True) vq x) => r_NormV (V_of hx) HS.out.2.1 (by have := HS.out.1; have := HN.out; omega))
   rw [hvx] at HN1
   have x5 := decide_eq_false (show ¬ (i : Int) < (i : Int) by omega)
   obtain ⟨L, hL⟩ : ∃ z, (Num.wordsN (a * b)).length = z := ⟨_, rfl⟩
   have hL2 := HF.out
   unfold Fit at hL2
   have HL := md_ hL
   rw [hL] at hL2
   have x6 := decide_eq_false (show ¬ (2000 : Int) < (L : Int) by omega)
   clear hvx hL hL2
   go_wp2_with (go_at_call 77; (with_reducible refine (HN1.out _ HO.out).mono ?_); rintro e w' ⟨q1, rfl, hr, hb⟩; obtain ⟨Aq, cq, haq, -, -, -⟩ := hr.open; rw [HL.out] at haq; subst haq; have hq1 := md_ hr; replace HB := bt_ HB hb; clear hb hr)
   go_ret2
   exact ⟨_, rfl, hq1.out, HB.out⟩
  | succ j =>
   have hin : i < n := by have := HK.out; omega
   have hil : i < la.length := by have := HN.out.1.1; omega
   have hnl := HN.out
   obtain ⟨g7, g8⟩ := get_nat HOK.out hil
   obtain ⟨wi, hwi⟩ : ∃ z : Nat, (la[i]).toNat = z := ⟨_, rfl⟩
   rw [hwi] at g7 g8
   obtain ⟨ad, hA, hz0⟩ := Kd.at_int HC.out (i : Int) (by omega) (by omega)
   subst hA
   have hrd : rd la (i : Int) = (wi : Int) := by
    unfold rd
    rw [Int.toNat_natCast, List.getD_eq_getElem?_getD, List.getElem?_eq_getElem hil]
    exact g7.symm
   rw [hrd, Int.toNat_natCast] at hz0
   have HZ0 := md_ hz0
   have c1 : (0 : Int) ≤ (i : Int) := by omega
   have c2 : (i : Int) < (n : Int) := by omega
   have HI := md_ (show i < n ∧ i + 1 + j = n ∧ wi < 4294967296 by have := HK.out; omega)
   have HWI := md_ (show ∀ h : i < la.length, (la[i]).toNat = wi from fun _ => hwi)
   have HM0 := md_ (mul_in wi HS.out)
   have c3 := decide_eq_true c2
   clear hin hil hnl g7 g8 hwi hz0 hrd HK HS
   go_wp2
   go_loopg [8, 9] m (fun kq v8 v9 w2 => ∃ (k c : Nat) (y : List Int), v8 = .int .u64 (c : Int) ∧ v9 = .int .i64 (k : Int) ∧ Aside0 (k + kq = m) ∧ Aside0 (MulB la lb wi i k c y) ∧ Aside0 (Kd.R (Kd.int .u32) 119 w2 w.heap.size (fun _ => True) vq y) ∧ Aside0 (Below w.heap.size w w2))
   case atStart => exact ⟨0, 0, x, rfl, rfl, ⟨Nat.zero_add m⟩, HM0, HO, HB⟩
   case round =>
    clear HO HB HM0 c3
    obtain ⟨k, cr, y, rfl, rfl, HK, HS, HO, HB⟩ := hrel
    cases gk with
    | zero =>
     have hk : k = m := HK.out
     subst hk
     have hnl := HN.out
     have hii := HI.out
     have hlb := HN.out.2.1
     have hss := HS.out
     rw [← hlb] at hss
     have hst := mul_out (la := la) (lb := lb) (i := i) (by omega) (HWI.out (by omega)) hss
     rw [hlb] at hst
     obtain ⟨go, co, rfl, gb, gl, cl, HG⟩ := Kd.R_form HO.out (by have := HS.out.1; omega)
     obtain ⟨K, hK⟩ : ∃ z, i + k = z := ⟨_, rfl⟩
     rw [hK] at hst
     have hyl := HS.out.1
     obtain ⟨hx, hf⟩ := Kd.R_celln 0 HO.out (K : Int) (by omega) (by omega)
     rw [Int.toNat_natCast] at hx hf
     have W1 := wrp (x := (i : Int) + (k : Int)) (y := (K : Int)) (by omega)
     have W3 := wrp (x := (i : Int) + 1) (y := ((i + 1 : Nat) : Int)) (by omega)
     have x5 := decide_eq_false (show ¬ (k : Int) < (k : Int) by omega)
     have c3 : (0 : Int) ≤ (K : Int) := by omega
     have c4 : (K : Int) < (y.length : Int) := by omega
     have hcr := HS.out.2.2.1
     obtain ⟨cv, hcv⟩ : ∃ y : Int, (cr : Int) = y := ⟨_, rfl⟩
     rw [hcv] at hst
     have e1 : IntKind.u32.wrap cv = cv := by rw [IntKind.wrap_u32]; omega
     have e2 : cv % 4294967296 = cv := by omega
     have HP := md_ (Kd.R_putg HO.out (K : Int) cv)
     rw [Int.toNat_natCast] at HP
     have GB := md_ gb
     have HST := md_ hst
     rw [hcv]
     clear hnl hii hlb hss hst gb gl cl HG hK hyl hcr hcv HS HK
     obtain ⟨w1, w2⟩ := W1.out
     obtain ⟨w5, w6⟩ := W3.out
     clear W1 W3
     go_wp2
     go_roundg j
     case measure => omega
     case rel => exact ⟨i + 1, y.set K cv, by first | rfl | rw [w5] | rw [w6], ⟨HI.out.2.1⟩, HST, ⟨HP.out.1⟩, ⟨below_set HB.out GB.out⟩⟩
    | succ g =>
     have hkk := HK.out
     have hnl := HN.out
     have hii := HI.out
     have hkl : k < lb.length := by omega
     obtain ⟨g7, g8⟩ := get_nat HOK1.out hkl
     obtain ⟨bi, hbi⟩ : ∃ z : Nat, (lb[k]).toNat = z := ⟨_, rfl⟩
     rw [hbi] at g7 g8
     obtain ⟨ad1, hA1, hz1⟩ := Kd.at_int HC1.out (k : Int) (by omega) (by omega)
     subst hA1
     have hrd : rd lb (k : Int) = (bi : Int) := by
      unfold rd
      rw [Int.toNat_natCast, List.getD_eq_getElem?_getD, List.getElem?_eq_getElem hkl]
      exact g7.symm
     rw [hrd, Int.toNat_natCast] at hz1
     have hz := pw_cell_below HB.out HZ0.out
     have hy := pw_cell_below HB.out hz1
     have hyl := HS.out.1
     have i1 : i + k < y.length := by omega
     obtain ⟨z, hzz⟩ : ∃ z : Nat, (y[i + k]).toNat = z := ⟨_, rfl⟩
     obtain ⟨g1, g2⟩ := get_nat HS.out.2.1 i1
     rw [hzz] at g1 g2
     obtain ⟨X, hX⟩ : ∃ r : Nat, cr + wi * bi + z = r := ⟨_, rfl⟩
     obtain ⟨s1, hst⟩ := mul_step (by omega) hkl HOK1.out hii.2.2 HS.out hbi (fun _ => hzz) hX
     obtain ⟨go, co, rfl, gb, gl, cl, HG⟩ := Kd.R_form HO.out (by omega)
     obtain ⟨hx, _⟩ := Kd.R_celln 0 HO.out ((i + k : Nat) : Int) (by omega) (by omega)
     have hr0 : rdOf 0 y ((i + k : Nat) : Int) = (z : Int) := by
      unfold rdOf
      rw [Int.toNat_natCast, List.getD_eq_getElem?_getD, List.getElem?_eq_getElem i1]
      exact g1.symm
     rw [hr0] at hx
     rw [Int.toNat_natCast] at hx
     obtain ⟨K, hK⟩ : ∃ z, i + k = z := ⟨_, rfl⟩
     rw [hK] at hx hst i1
     have W1 := wrp (x := (i : Int) + (k : Int)) (y := (K : Int)) (by omega)
     have W3 := wrp (x := (k : Int) + 1) (y := ((k + 1 : Nat) : Int)) (by omega)
     have hpb : wi * bi < 18446744073709551616 := by omega
     have hpc : cr + wi * bi < 18446744073709551616 := by omega
     obtain ⟨pv, hpv⟩ : ∃ y : Int, ((wi * bi : Nat) : Int) = y := ⟨_, rfl⟩
     obtain ⟨p2v, hp2v⟩ : ∃ y : Int, ((cr + wi * bi : Nat) : Int) = y := ⟨_, rfl⟩
     obtain ⟨Xv, hXv⟩ : ∃ y : Int, (X : Int) = y := ⟨_, rfl⟩
     obtain ⟨yl, hyl2⟩ : ∃ y : Int, ((X % 4294967296 : Nat) : Int) = y := ⟨_, rfl⟩
     obtain ⟨yh, hyh⟩ : ∃ y : Int, ((X / 4294967296 : Nat) : Int) = y := ⟨_, rfl⟩
     obtain ⟨wv, hwv⟩ : ∃ y : Int, (wi : Int) = y := ⟨_, rfl⟩
     obtain ⟨bv, hbv⟩ : ∃ y : Int, (bi : Int) = y := ⟨_, rfl⟩
     obtain ⟨cv, hcv⟩ : ∃ y : Int, (cr : Int) = y := ⟨_, rfl⟩
     obtain ⟨zv, hzv⟩ : ∃ y : Int, (z : Int) = y := ⟨_, rfl⟩
     have m1 : wv * bv = pv := by rw [← hwv, ← hbv, ← hpv, Int.natCast_mul]
     have e1 : IntKind.u64.wrap wv = wv := by rw [IntKind.wrap_u64]; omega
     have e2 : IntKind.u64.wrap bv = bv := by rw [IntKind.wrap_u64]; omega
     have e3 : IntKind.u64.wrap (wv * bv) = pv := by rw [m1, IntKind.wrap_u64]; omega
     have e4 : IntKind.u64.wrap (cv + pv) = p2v := by rw [IntKind.wrap_u64]; omega
     have e5 : IntKind.u64.wrap zv = zv := by rw [IntKind.wrap_u64]; omega
     have e6 : IntKind.u64.wrap (p2v + zv) = Xv := by rw [IntKind.wrap_u64]; omega
     have e7 : IntKind.u32.wrap Xv = yl := by rw [IntKind.wrap_u32]; omega
     have e8 : Xv % 4294967296 = yl := by omega
     have e9 : Xv / 4294967296 = yh := by omega
     rw [hyl2] at hst
     rw [hwv] at hz
     rw [hbv] at hy
     rw [hzv] at hx
     rw [hcv]
     have c3 : (0 : Int) ≤ (K : Int) := by omega
     have c4 : (K : Int) < (y.length : Int) := by omega
     have c5 : (0 : Int) ≤ (k : Int) := by omega
     have c6 : (k : Int) < (m : Int) := by omega
     have c7 := decide_eq_true c6
     have GB := md_ gb
     have HST := md_ hst
     have HK2 := md_ (show k + 1 + g = m by omega)
     have HYH := md_ hyh
     clear hkk hnl hii hkl g7 g8 hbi hz1 hrd hyl i1 hzz g1 g2 hX s1 hst gb gl cl HG hr0 hK hpb hpc hpv hp2v hXv hyl2 hyh hwv hbv hcv hzv m1 HK HS
     obtain ⟨w1, w2⟩ := W1.out
     obtain ⟨w5, w6⟩ := W3.out
     clear W1 W3
     go_upto_region 13 with (fail)
     go_quiet (fail)
     generalize hW : World.drewN _ _ = w6
     have HO6 := Kd.R_drewN HO.out
     replace HO := md_ (show Kd.R (Kd.int .u32) 119 w6 w.heap.size (fun _ => True) (.slice (some ⟨go, 0, none⟩) y.length co) y by rw [← hW]; exact HO6 _)
     replace HB := md_ (show Below w.heap.size w w6 by rw [← hW]; exact pw_below_drewN HB.out _)
     clear HO6 hW hx
     obtain ⟨hx, hf⟩ := Kd.R_celln 0 HO.out (K : Int) c3 c4
     rw [Int.toNat_natCast] at hx hf
     have HP := md_ (Kd.R_putg HO.out (K : Int) yl)
     rw [Int.toNat_natCast] at HP
     go_wp2
     go_roundg g
     case measure => omega
     case rel => exact ⟨k + 1, X / 4294967296, y.set K yl, by rw [HYH.out], by first | rfl | rw [w5] | rw [w6], HK2, HST, ⟨HP.out.1⟩, ⟨below_set HB.out GB.out⟩⟩
end Go.Proofs.YtneepokiioefgaaGreatDoor.Dec
set_option maxHeartbeats 32000000
namespace Go.Div
open Go.Proofs.YtneepokiioefgaaGreatDoor
def Shl (la : List Int) (q r k : Nat) (o : List Int) : Prop :=
 o.length = la.length + q + 1 ∧ Num.okW o ∧ Num.valN o = Num.valN (la.take k) * 2 ^ (32 * q + r) ∧ (∀ h : k + q < o.length, (o[k + q]).toNat < 2 ^ r) ∧ ∀ j (h : j < o.length), k + q < j → o[j] = 0
theorem shl_start (la : List Int) (q r : Nat) : Shl la q r 0 (List.replicate (la.length + q + 1) 0) := by
 refine ⟨List.length_replicate, okW_zeros _, ?_, fun h => ?_, fun j h _ => List.getElem_replicate _⟩
 ·rw [valN_zeros, List.take_zero]
  show 0 = 0 * _
  rw [Nat.zero_mul]
 ·rw [List.getElem_replicate]
  exact Nat.two_pow_pos r
theorem shl_end {la o : List Int} {q r : Nat} (h : Shl la q r la.length o) : Num.valN o = Num.valN la * 2 ^ (32 * q + r) := by
 rw [h.2.2.1, List.take_length]
theorem pow32 (q : Nat) : (2 : Nat) ^ (32 * q) = 4294967296 ^ q := by
 rw [Nat.pow_mul]
theorem shl_low {x r : Nat} (hr : r ≤ 32) : x * 2 ^ r % 4294967296 % 2 ^ r = 0 := by
 have h : (4294967296 : Nat) = 2 ^ r * 2 ^ (32 - r) := by rw [← Nat.pow_add, show r + (32 - r) = 32 by omega]
 rw [h, Nat.mod_mul_right_mod, Nat.mul_mod_left]
theorem shl_fit {a b r : Nat} (hr : r ≤ 32) (ha : a < 2 ^ r) (hb : b < 4294967296) (h0 : b % 2 ^ r = 0) : a + b < 4294967296 := by
 have h : (4294967296 : Nat) = 2 ^ r * 2 ^ (32 - r) := by rw [← Nat.pow_add, show r + (32 - r) = 32 by omega]
 have e : b = 2 ^ r * (b / 2 ^ r) := by have := Nat.div_add_mod b (2 ^ r); omega
 have hq : b / 2 ^ r < 2 ^ (32 - r) := by
  rw [Nat.div_lt_iff_lt_mul (Nat.two_pow_pos r), Nat.mul_comm]
  omega
 have h2 : 2 ^ r * (b / 2 ^ r + 1) ≤ 2 ^ r * 2 ^ (32 - r) := Nat.mul_le_mul_left _ hq
 rw [Nat.mul_add] at h2
 omega
theorem shl_step {la o : List Int} {q r k : Nat} (hk : k < la.length) (okl : Num.okW la) (hr : r < 32) (h : Shl la q r k o) {x z : Nat} (hx : (la[k]).toNat * 2 ^ r = x) (hz : ∀ h : k + q < o.length, (o[k + q]).toNat = z) :
  z + x % 4294967296 < 4294967296 ∧ x / 4294967296 < 4294967296 ∧ z < 2 ^ r ∧ Shl la q r (k + 1) ((o.set (k + q) ((z + x % 4294967296 : Nat) : Int)).set (k + q + 1) ((x / 4294967296 : Nat) : Int)) := by
 obtain ⟨h1, h2, h3, h4, h5⟩ := h
 have i1 : k + q < o.length := by omega
 have i2 : k + q + 1 < o.length := by omega
 have hz' := hz i1
 have h4' := h4 i1
 rw [hz'] at h4'
 have hw : (la[k]).toNat < 4294967296 := (get_nat okl hk).2
 have hx2 : x < 4294967296 * 2 ^ r := by
  rw [← hx]
  exact Nat.mul_lt_mul_of_pos_right hw (Nat.two_pow_pos r)
 have hxr : x / 4294967296 < 2 ^ r := by
  rw [Nat.div_lt_iff_lt_mul (by decide), Nat.mul_comm]
  exact hx2
 have hp : 2 ^ r ≤ 4294967296 := Nat.pow_le_pow_right (i := r) (j := 32) (by decide) (by omega)
 have hlow : z + x % 4294967296 < 4294967296 := shl_fit (by omega) h4' (Nat.mod_lt _ (by decide)) (by rw [← hx]; exact shl_low (by omega))
 refine ⟨hlow, by omega, h4', by rw [List.length_set, List.length_set]; exact h1, okW_set (okW_set h2 _ (by omega)) _ (by omega), ?_, fun _ => ?_, fun j hj hlt => ?_⟩
 ·have e1 := valN_set i1 ((z + x % 4294967296 : Nat) : Int)
  have e2 := valN_set (l := o.set (k + q) ((z + x % 4294967296 : Nat) : Int)) (i := k + q + 1) (by rw [List.length_set]; exact i2) ((x / 4294967296 : Nat) : Int)
  rw [List.getElem_set_ne (by omega), h5 _ i2 (by omega), Int.toNat_zero, Nat.zero_mul, Nat.add_zero] at e2
  rw [hz'] at e1
  rw [e2, valN_take hk, Nat.add_mul, ← h3, Nat.pow_add 2, pow32]
  have e3 : (la[k]).toNat * 4294967296 ^ k * (4294967296 ^ q * 2 ^ r) = x * 4294967296 ^ (k + q) := by
   rw [← hx, Nat.pow_add]
   generalize 4294967296 ^ k = p
   generalize 4294967296 ^ q = s
   generalize 2 ^ r = t
   generalize (la[k]).toNat = u
   rw [Nat.mul_assoc, Nat.mul_assoc, Nat.mul_comm s t, Nat.mul_left_comm p t s]
  rw [e3, Nat.pow_succ]
  rw [Int.toNat_natCast] at e1 ⊢
  generalize hB : 4294967296 ^ (k + q) = P at *
  have e4 : x * P = (x % 4294967296) * P + x / 4294967296 * (P * 4294967296) := by
   conv => lhs; rw [← Nat.mod_add_div x 4294967296, Nat.add_mul]
   congr 1
   rw [Nat.mul_comm 4294967296, Nat.mul_assoc, Nat.mul_comm 4294967296]
  rw [Nat.add_mul] at e1
  omega
 ·have ek : k + 1 + q = k + q + 1 := by omega
  simp only [ek, List.getElem_set_self, Int.toNat_natCast]
  exact hxr
 ·rw [List.length_set, List.length_set] at hj
  rw [List.getElem_set_ne (by omega), List.getElem_set_ne (by omega)]
  exact h5 j hj (by omega)
end Go.Div
set_option maxHeartbeats 32000000
namespace Go.Div
open Go.Proofs.YtneepokiioefgaaGreatDoor
theorem hi_div {l : List Int} (ok : Num.okW l) (j : Nat) : Num.valN l / 4294967296 ^ j = hi l j := by
 induction j generalizing l with
 | zero => rw [Nat.pow_zero, Nat.div_one]; rfl
 | succ j ih =>
  cases l with
  | nil => exact Nat.zero_div _
  | cons x t =>
   have hx := ok x (List.mem_cons_self ..)
   rw [Nat.pow_succ, Nat.mul_comm, ← Nat.div_div_eq_div_mul, valN_cons, Nat.add_mul_div_left _ _ (by decide), Nat.div_eq_of_lt (a := x.toNat) (by omega), Nat.zero_add, ih (fun y hy => ok y (List.mem_cons_of_mem _ hy))]
   rfl
def Shr (la : List Int) (q r k : Nat) (o : List Int) : Prop :=
 o.length = k ∧ Num.okW o ∧ Num.valN o = Num.valN la / 2 ^ (32 * q + r) % 4294967296 ^ k
theorem shr_start (la : List Int) (q r : Nat) : Shr la q r 0 [] := by
 refine ⟨rfl, fun x h => ?_, ?_⟩
 ·cases h
 ·rw [Nat.pow_zero, Nat.mod_one]; rfl
theorem shr_val {la : List Int} (ok : Num.okW la) (q r k : Nat) : Num.valN la / 2 ^ (32 * q + r) / 4294967296 ^ k = hi la (q + k) / 2 ^ r := by
 rw [← hi_div ok, Nat.pow_add, pow32, Nat.div_div_eq_div_mul, Nat.div_div_eq_div_mul, Nat.pow_add]
 congr 1
 rw [Nat.mul_assoc, Nat.mul_assoc, Nat.mul_comm (2 ^ r)]
theorem shr_cut (h : Nat) {r : Nat} (hr : r ≤ 32) : h % (4294967296 * 4294967296) / 2 ^ r % 4294967296 = h / 2 ^ r % 4294967296 := by
 have e : (4294967296 : Nat) * 4294967296 = 2 ^ r * (4294967296 * 2 ^ (32 - r)) := by
  rw [Nat.mul_left_comm, ← Nat.pow_add, show r + (32 - r) = 32 by omega]
 rw [e, Nat.mod_mul_right_div_self, Nat.mod_mul_right_mod]
theorem shr_end {la o : List Int} (ok : Num.okW la) {q r k : Nat} (h : Shr la q r k o) (hk : la.length ≤ q + k) : Num.valN o = Num.valN la / 2 ^ (32 * q + r) := by
 rw [h.2.2]
 refine Nat.mod_eq_of_lt ?_
 rw [← Nat.div_eq_zero_iff_lt (Nat.pow_pos (by decide)), shr_val ok]
 have : hi la (q + k) = 0 := by unfold hi; rw [List.drop_of_length_le hk]; rfl
 rw [this, Nat.zero_div]
theorem shr_step {la o : List Int} (ok : Num.okW la) {q r k : Nat} (hr : r ≤ 32) (h : Shr la q r k o) {x : Nat} (hx : hi la (q + k) % (4294967296 * 4294967296) = x) :
  Shr la q r (k + 1) (o ++ [((x / 2 ^ r % 4294967296 : Nat) : Int)]) := by
 obtain ⟨h1, h2, h3⟩ := h
 refine ⟨by rw [List.length_append, h1]; rfl, ?_, ?_⟩
 ·intro z hz
  rcases List.mem_append.1 hz with g | g
  ·exact h2 z g
  ·rw [List.mem_singleton.1 g]
   omega
 ·rw [Num.val_snoc, h1, h3, Nat.pow_succ, Nat.mod_mul, shr_val ok, Int.toNat_natCast, ← hx, shr_cut _ hr]
theorem two_words {la : List Int} (ok : Num.okW la) {j : Nat} (h : j < la.length) : hi la j % (4294967296 * 4294967296) = (la[j]).toNat + 4294967296 * ((la[j + 1]?.getD 0).toNat) := by
 have g := (get_nat ok h).2
 rw [hi_step h, Nat.mod_mul]
 rw [Nat.add_mul_mod_self_left, Nat.mod_eq_of_lt g, Nat.add_mul_div_left _ _ (by decide), Nat.div_eq_of_lt g, Nat.zero_add]
 congr 2
 rcases Nat.lt_or_ge (j + 1) la.length with c | c
 ·rw [hi_step c, Nat.add_mul_mod_self_left, List.getElem?_eq_getElem c]
  exact Nat.mod_eq_of_lt (get_nat ok c).2
 ·rw [List.getElem?_eq_none c]
  unfold hi
  rw [List.drop_of_length_le c]
  rfl
end Go.Div
set_option maxHeartbeats 32000000
namespace Go.Div
open Go.Proofs.YtneepokiioefgaaGreatDoor Go.Proofs.YtneepokiioefgaaGreatDoor.Dec
theorem hi_less {la lb : List Int} (oka : Num.okW la) (okb : Num.okW lb) {i : Nat} (ha : i < la.length) (hb : i < lb.length) (h : hi la (i + 1) = hi lb (i + 1)) (hlt : (la[i]).toNat < (lb[i]).toNat) : Num.valN la < Num.valN lb := by
 have h1 : hi la i < hi lb i := by rw [hi_step ha, hi_step hb, h]; omega
 rw [← hi_div oka, ← hi_div okb] at h1
 rcases Nat.lt_or_ge (Num.valN la) (Num.valN lb) with c | c
 ·exact c
 ·have := Nat.div_le_div_right (c := 4294967296 ^ i) c
  omega
theorem len_less {a b : Nat} (h : (Num.wordsN a).length < (Num.wordsN b).length) : a < b := by
 rcases Nat.lt_or_ge a b with c | c
 ·exact c
 ·have := len_le (Nat.le_refl _) c
  omega
theorem cmp_lt {a b : Nat} (h : a < b) : Num.cmpN a b = -1 := by unfold Num.cmpN; rw [if_pos h]
theorem cmp_gt {a b : Nat} (h : b < a) : Num.cmpN a b = 1 := by unfold Num.cmpN; rw [if_neg (by omega), if_pos h]
theorem cmp_eq (a : Nat) : Num.cmpN a a = 0 := by unfold Num.cmpN; rw [if_neg (by omega), if_neg (by omega)]
end Go.Div
set_option maxHeartbeats 32000000
namespace Go.Proofs.YtneepokiioefgaaGreatDoor.Dec
open Go.RowKit Go.Div PNat Go.Proofs.YtneepokiioefgaaGreatDoor.Pure YtneepokiioefgaaGreatDoorW.PrintWords YtneepokiioefgaaGreatDoorW.PrintLast YtneepokiioefgaaGreatDoorW.PrintMore
set_option maxRecDepth 100000 in
theorem r_Compare {w : World} {v u : Value} {a b : Nat} (h0 : Nm w v a) (h1 : Nm w u b) (fa : Fit a) (fb : Fit b) :
  Calls Tryz.prog 104 #[v, u] w fun e w' => e = .returned (.int .i64 (Num.cmpN a b)) ∧ Below w.heap.size w w' := by
 have T0 := md_ (r_trimmed h0)
 have T1 := md_ (r_trimmed h1)
 obtain ⟨A, c, rfl, hlc, hC, _⟩ := h0.open
 obtain ⟨A1, cb, rfl, hlc1, hC1, _⟩ := h1.open
 have hlt := @len_less a b
 have hgt := @len_less b a
 obtain ⟨la, hla⟩ : ∃ l, Num.wordsN a = l := ⟨_, rfl⟩
 obtain ⟨lb, hlb⟩ : ∃ l, Num.wordsN b = l := ⟨_, rfl⟩
 have hok := Num.wordsN_ok a
 have hok1 := Num.wordsN_ok b
 have hval := Num.wordsN_val a
 have hval1 := Num.wordsN_val b
 have hlen : (Num.wordsN a).length ≤ 2000 := fa
 have hlen1 : (Num.wordsN b).length ≤ 2000 := fb
 rw [hla] at hC hok hval hlen T0 hlt hgt
 rw [hlb] at hC1 hok1 hval1 hlen1 T1 hlt hgt
 rw [hla, hlb]
 obtain ⟨n, hn⟩ : ∃ n, la.length = n := ⟨_, rfl⟩
 obtain ⟨m, hm⟩ : ∃ n, lb.length = n := ⟨_, rfl⟩
 rw [hn] at hC hlen T0 hlt hgt
 rw [hm] at hC1 hlen1 T1 hlt hgt
 rw [hn, hm]
 rcases Nat.lt_trichotomy n m with c0 | c0 | c0
 ·have k1 : ((n : Int) == (m : Int)) = false := by rw [beq_eq_false_iff_ne]; omega
  have k2 : ¬ n = m := by omega
  have k3 := decide_eq_true c0
  rw [cmp_lt (hlt c0)]
  clear h0 h1 hlc hlc1 hC hC1 hlt hgt hla hlb hok hok1 hval hval1 hlen hlen1 hn hm
  go_enter Tryz.func104, Tryz.ntmps104
  go_wp2_with (first
  | (go_at_call 78; (with_reducible refine T0.out.mono ?_); rintro e w' ⟨rfl, hw⟩; obtain rfl := hw.symm)
  | (go_at_call 78; (with_reducible refine T1.out.mono ?_); rintro e w' ⟨rfl, hw⟩; obtain rfl := hw.symm))
  go_ret
  exact ⟨rfl, Below.refl _ _⟩
 ·subst c0
  have HC := md_ hC
  have HC1 := md_ hC1
  have HOK := md_ (show Num.okW la ∧ Num.okW lb from ⟨hok, hok1⟩)
  have HN := md_ (show la.length = n ∧ lb.length = n ∧ n ≤ 2000 from ⟨hn, hm, hlen⟩)
  have HV := md_ (show Num.valN la = a ∧ Num.valN lb = b from ⟨hval, hval1⟩)
  have hst : hi la n = hi lb n := by
   have e1 := hi_end la
   have e2 := hi_end lb
   rw [hn] at e1
   rw [hm] at e2
   rw [e1, e2]
  have HST := md_ hst
  have HB := md_ (Below.refl w.heap.size w)
  obtain ⟨cc, hcc⟩ : ∃ z, Num.cmpN a b = z := ⟨_, rfl⟩
  have HCC := md_ hcc
  rw [hcc]
  have Z1 := wrp (x := (n : Int) - 1) (y := (n : Int) - 1) (by omega)
  obtain ⟨z1, z2⟩ := Z1.out
  clear h0 h1 hlc hlc1 hC hC1 hlt hgt hla hlb hok hok1 hval hval1 hlen hlen1 hn hm fa fb hst hcc Z1
  go_enter Tryz.func104, Tryz.ntmps104
  go_wp2_with (first
  | (go_at_call 78; (with_reducible refine T0.out.mono ?_); rintro e w' ⟨rfl, hw⟩; obtain rfl := hw.symm)
  | (go_at_call 78; (with_reducible refine T1.out.mono ?_); rintro e w' ⟨rfl, hw⟩; obtain rfl := hw.symm))
  go_loopg [5] n (fun kq v5 wr => v5 = .int .i64 ((kq : Int) - 1) ∧ Aside0 (kq ≤ n ∧ hi la kq = hi lb kq) ∧ Aside0 (Below w.heap.size w wr))
  case atStart => exact ⟨by first | rfl | rw [z1] | rw [z2], ⟨Nat.le_refl n, HST.out⟩, HB⟩
  case round =>
   clear HST z1 z2 HB
   obtain ⟨h8, HI, HB⟩ := hrel
   cases gk with
   | zero =>
    rw [show ((0 : Nat) : Int) - 1 = -1 from rfl] at h8
    subst h8
    have hab : a = b := by
     have h := HI.out.2
     rw [hi_zero, hi_zero, HV.out.1, HV.out.2] at h
     exact h
    have hc : cc = 0 := by rw [← HCC.out, hab]; exact cmp_eq b
    clear hab
    go_wp2
    go_ret
    exact ⟨by subst hc; rfl, HB.out⟩
   | succ i =>
    rw [show ((i + 1 : Nat) : Int) - 1 = (i : Int) by omega] at h8
    subst h8
    have hn := HN.out
    have hi := HI.out
    have hia : i < la.length := by omega
    have hib : i < lb.length := by omega
    obtain ⟨g1, g2⟩ := get_nat HOK.out.1 hia
    obtain ⟨g3, g4⟩ := get_nat HOK.out.2 hib
    have k1 : (la[i]).toNat < (lb[i]).toNat → cc = -1 := fun h => HCC.out.symm.trans (cmp_lt (by
     have := hi_less HOK.out.1 HOK.out.2 hia hib hi.2 h
     rw [HV.out.1, HV.out.2] at this
     exact this))
    have k2 : (lb[i]).toNat < (la[i]).toNat → cc = 1 := fun h => HCC.out.symm.trans (cmp_gt (by
     have := hi_less HOK.out.2 HOK.out.1 hib hia hi.2.symm h
     rw [HV.out.1, HV.out.2] at this
     exact this))
    have k3 : (la[i]).toNat = (lb[i]).toNat → Go.Div.hi la i = Go.Div.hi lb i := fun h => by rw [hi_step hia, hi_step hib, h, hi.2]
    obtain ⟨x, hx⟩ : ∃ z : Nat, (la[i]).toNat = z := ⟨_, rfl⟩
    obtain ⟨y, hy⟩ : ∃ z : Nat, (lb[i]).toNat = z := ⟨_, rfl⟩
    rw [hx] at g1 g2 k1 k2 k3
    rw [hy] at g3 g4 k1 k2 k3
    obtain ⟨ad, hA, hz0⟩ := Kd.at_int HC.out (i : Int) (by omega) (by omega)
    subst hA
    have hr0 : rd la (i : Int) = (x : Int) := by
     unfold rd
     rw [Int.toNat_natCast, List.getD_eq_getElem?_getD, List.getElem?_eq_getElem hia]
     exact g1.symm
    rw [hr0, Int.toNat_natCast] at hz0
    obtain ⟨ad1, hA1, hz1⟩ := Kd.at_int HC1.out (i : Int) (by omega) (by omega)
    subst hA1
    have hr1 : rd lb (i : Int) = (y : Int) := by
     unfold rd
     rw [Int.toNat_natCast, List.getD_eq_getElem?_getD, List.getElem?_eq_getElem hib]
     exact g3.symm
    rw [hr1, Int.toNat_natCast] at hz1
    have hy0 := pw_cell_below HB.out hz0
    have hy1 := pw_cell_below HB.out hz1
    clear hz0 hz1
    have c1 : (0 : Int) ≤ (i : Int) := by omega
    have c2 : (i : Int) < (n : Int) := by omega
    have Z1 := wrp (x := (i : Int) - 1) (y := (i : Int) - 1) (by omega)
    have HK := md_ (show i ≤ n by omega)
    obtain ⟨xv, hxv⟩ : ∃ z : Int, (x : Int) = z := ⟨_, rfl⟩
    obtain ⟨yv, hyv⟩ : ∃ z : Int, (y : Int) = z := ⟨_, rfl⟩
    rw [hxv] at hy0
    rw [hyv] at hy1
    obtain ⟨z1, z2⟩ := Z1.out
    clear Z1
    rcases Nat.lt_trichotomy x y with d | d | d
    ·have e1 : (xv == yv) = false := by rw [beq_eq_false_iff_ne]; omega
     have e2 : ¬ xv = yv := by omega
     have e3 := decide_eq_true (show xv < yv by omega)
     have e4 := decide_eq_false (show ¬ yv < xv by omega)
     have hq := k1 d
     clear hn hi hia hib g1 g2 g3 g4 k1 k2 k3 hx hy hr0 hr1 hxv hyv d
     go_upto_region 10 with (fail)
     go_quiet (fail)
     go_upto_region 11 with (fail)
     go_quiet (fail)
     go_wp2
     go_ret
     exact ⟨by subst hq; rfl, by repeat (first | exact HB.out | apply pw_below_drewN)⟩
    ·have e1 : (xv == yv) = true := by rw [beq_iff_eq]; omega
     have e2 : xv = yv := by omega
     have e3 := decide_eq_false (show ¬ xv < yv by omega)
     have e4 := decide_eq_false (show ¬ yv < xv by omega)
     have HS := md_ (k3 d)
     clear hn hi hia hib g1 g2 g3 g4 k1 k2 k3 hx hy hr0 hr1 hxv hyv d
     go_upto_region 10 with (fail)
     go_quiet (fail)
     go_wp2
     go_roundg i
     case measure => omega
     case rel => exact ⟨by first | rfl | rw [z1] | rw [z2], ⟨HK.out, HS.out⟩, ⟨by repeat (first | exact HB.out | apply pw_below_drewN)⟩⟩
    ·have e1 : (xv == yv) = false := by rw [beq_eq_false_iff_ne]; omega
     have e2 : ¬ xv = yv := by omega
     have e3 := decide_eq_false (show ¬ xv < yv by omega)
     have e4 := decide_eq_true (show yv < xv by omega)
     have hq := k2 d
     clear hn hi hia hib g1 g2 g3 g4 k1 k2 k3 hx hy hr0 hr1 hxv hyv d
     go_upto_region 10 with (fail)
     go_quiet (fail)
     go_upto_region 11 with (fail)
     go_quiet (fail)
     go_wp2
     go_ret
     exact ⟨by subst hq; rfl, by repeat (first | exact HB.out | apply pw_below_drewN)⟩
 ·have k1 : ((n : Int) == (m : Int)) = false := by rw [beq_eq_false_iff_ne]; omega
  have k2 : ¬ n = m := by omega
  have k3 := decide_eq_false (show ¬ n < m by omega)
  rw [cmp_gt (hgt c0)]
  clear h0 h1 hlc hlc1 hC hC1 hlt hgt hla hlb hok hok1 hval hval1 hlen hlen1 hn hm
  go_enter Tryz.func104, Tryz.ntmps104
  go_wp2_with (first
  | (go_at_call 78; (with_reducible refine T0.out.mono ?_); rintro e w' ⟨rfl, hw⟩; obtain rfl := hw.symm)
  | (go_at_call 78; (with_reducible refine T1.out.mono ?_); rintro e w' ⟨rfl, hw⟩; obtain rfl := hw.symm))
  go_ret
  exact ⟨rfl, Below.refl _ _⟩
end Go.Proofs.YtneepokiioefgaaGreatDoor.Dec
set_option maxHeartbeats 32000000
namespace Go.Read
open Go.Proofs.YtneepokiioefgaaGreatDoor
def decT (n : Int) : List UInt8 := if n < 0 then 45 :: Num.textN n.natAbs else Num.textN n.toNat
end Go.Read
namespace Go.Proofs.YtneepokiioefgaaGreatDoor.Dec
open Go.RowKit Go.Read Go.Proofs.YtneepokiioefgaaGreatDoor.Pure YtneepokiioefgaaGreatDoorW.PrintWords YtneepokiioefgaaGreatDoorW.PrintLast YtneepokiioefgaaGreatDoorW.PrintMore
set_option maxRecDepth 100000 in
theorem r_Of (w : World) (v : Nat) (hv : v < 18446744073709551616) : Calls Tryz.prog 58 #[.int .u64 (v : Int)] w fun e w' => ∃ r, e = .returned r ∧ Nm w' r v ∧ Below w.heap.size w w' := by
 obtain ⟨m, hm⟩ : ∃ z : Int, (v : Int) = z := ⟨_, rfl⟩
 obtain ⟨lo, hlo⟩ : ∃ z : Int, m % 4294967296 = z := ⟨_, rfl⟩
 obtain ⟨hi, hhi⟩ : ∃ z : Int, m / 4294967296 = z := ⟨_, rfl⟩
 have hhi2 : hi % 4294967296 = hi := by omega
 have HNorm : Aside0 (∀ w x, Kd.V (Kd.int .u32) 119 w 0 (fun _ => True) x [lo, hi] → Calls Tryz.prog 77 #[x] w fun e w' => ∃ r, e = .returned r ∧ Nm w' r v ∧ Below w.heap.size w w') := ⟨fun w x hx => by
  obtain ⟨A, c, rfl⟩ := Kd.V_slice hx
  obtain ⟨_, h2, h3⟩ := Kd.V_reads' hx
  have := r_Norm (l := [lo, hi]) h3 h2 (by intro x hx; simp at hx; rcases hx with rfl | rfl <;> omega) (by simp)
  rw [show Num.valN [lo, hi] = v by simp [Num.valN]; omega] at this
  exact this⟩
 have u1 : IntKind.u32.wrap m = lo := by rw [IntKind.wrap_u32]; exact hlo
 have u2 : IntKind.u32.wrap hi = hi := by rw [IntKind.wrap_u32]; exact hhi2
 have HB := md_ (Below.refl w.heap.size w)
 rw [hm]
 clear hv hm hhi2
 go_enter Tryz.func58, Tryz.ntmps58
 go_wp2_with (go_at_call 77; (refine (HNorm.out _ _ (two_V _ lo hi)).mono ?_); rintro e w2 ⟨r, rfl, hr, hb⟩; have hr' := md_ hr; replace HB := md_ (below_step (below_alloc HB.out _) hb); clear hr hb)
 go_ret
 exact ⟨_, rfl, hr'.out, HB.out⟩
set_option maxRecDepth 100000 in
theorem r_Decimal (w : World) (n : Int) (h0 : -9223372036854775808 ≤ n) (h1 : n ≤ 9223372036854775807) : Calls Tryz.prog 46 #[.int .i64 n] w fun e w' => e = .returned (.string (bs (decT n))) ∧ Below w.heap.size w w' := by
 unfold decT
 have HB := md_ (Below.refl w.heap.size w)
 have ft : ∀ a : Nat, a < 18446744073709551616 → Fit a := fun a h => fit_lt (b := 64) h (by omega)
 by_cases h : n < 0
 ·have c1 := decide_eq_true h
  rw [if_pos h]
  obtain ⟨a, ha⟩ : ∃ a : Nat, n.natAbs = a := ⟨_, rfl⟩
  have hab : a < 18446744073709551616 := by omega
  have HO := md_ (fun w => r_Of w a hab)
  have HX := md_ (fun (w : World) (v : Value) (h : Nm w v a) => r_Text h (ft a hab))
  rw [ha]
  obtain ⟨x, hx⟩ : ∃ x : Int, (a : Int) = x := ⟨_, rfl⟩
  rw [hx] at HO
  obtain ⟨un, hun⟩ : ∃ z : Int, n % 18446744073709551616 = z := ⟨_, rfl⟩
  have u1 : IntKind.u64.wrap n = un := by rw [IntKind.wrap_u64]; exact hun
  have u2 : IntKind.u64.wrap (-un) = x := by rw [IntKind.wrap_u64]; omega
  obtain ⟨t, ht⟩ : ∃ z : ByteArray, (⟨(Num.textN a).toArray⟩ : ByteArray) = z := ⟨_, rfl⟩
  rw [ht] at HX
  have hcat : ⟨#[45]⟩ ++ t = bs (45 :: Num.textN a) := by rw [← ht]; apply ByteArray.ext; simp [bs]
  have hsz : ¬ 9223372036854775807 < 1 + t.size := by
   have := Pure.textN_len a 4 (by omega)
   rw [← ht]
   show ¬ _ < 1 + (Num.textN a).toArray.size
   rw [List.size_toArray]
   omega
  obtain ⟨u, hu⟩ : ∃ z, bs (45 :: Num.textN a) = z := ⟨_, rfl⟩
  rw [hu] at hcat ⊢
  clear h h0 h1 ha hab hx hun ht hu ft
  go_enter Tryz.func46, Tryz.ntmps46
  go_wp2_with (first | (go_at_call 58; (with_reducible refine (HO.out _).mono ?_); rintro q w' ⟨r, rfl, hr, hb⟩; have hr' := md_ hr; replace HB := bt_ HB hb; clear hr hb) | (go_at_call 57; (with_reducible refine (HX.out _ _ hr'.out).mono ?_); rintro q w' ⟨rfl, hb⟩; replace HB := bt_ HB hb; clear hb))
  go_ret
  exact ⟨rfl, HB.out⟩
 ·have c1 := decide_eq_false h
  rw [if_neg h]
  obtain ⟨a, ha⟩ : ∃ a : Nat, n.toNat = a := ⟨_, rfl⟩
  have hab : a < 18446744073709551616 := by omega
  have HO := md_ (fun w => r_Of w a hab)
  have HX := md_ (fun (w : World) (v : Value) (h : Nm w v a) => r_Text h (ft a hab))
  rw [ha]
  have hx : (a : Int) = n := by omega
  rw [hx] at HO
  have u1 : IntKind.u64.wrap n = n := by rw [IntKind.wrap_u64]; omega
  obtain ⟨t, ht⟩ : ∃ z : ByteArray, (⟨(Num.textN a).toArray⟩ : ByteArray) = z := ⟨_, rfl⟩
  have ht2 : bs (Num.textN a) = t := ht
  rw [ht] at HX
  rw [ht2]
  clear h h0 h1 ha hab hx ht ht2 ft
  go_enter Tryz.func46, Tryz.ntmps46
  go_wp2_with (first | (go_at_call 58; (with_reducible refine (HO.out _).mono ?_); rintro q w' ⟨r, rfl, hr, hb⟩; have hr' := md_ hr; replace HB := bt_ HB hb; clear hr hb) | (go_at_call 57; (with_reducible refine (HX.out _ _ hr'.out).mono ?_); rintro q w' ⟨rfl, hb⟩; replace HB := bt_ HB hb; clear hb))
  go_ret
  exact ⟨rfl, HB.out⟩
end Go.Proofs.YtneepokiioefgaaGreatDoor.Dec
set_option maxHeartbeats 32000000
namespace Go.Read
open Go.Flt Go.Proofs.YtneepokiioefgaaGreatDoor Go.Proofs.YtneepokiioefgaaGreatDoor.Dec
def q1 (l : List UInt8) := after [43, 45] l
def q2 (l : List UInt8) := past (q1 l)
def qp (l : List UInt8) := hasM [46] (q2 l)
def q3 (l : List UInt8) := if qp l then past (q2 l).tail else q2 l
def qE (l : List UInt8) := hasM [69, 101, 68, 100] (q3 l)
def q4 (l : List UInt8) := after [69, 101, 68, 100] (q3 l)
def qS (l : List UInt8) := hasM [43, 45] (q4 l)
def q5 (l : List UInt8) := after [43, 45] (q4 l)
def q6 (l : List UInt8) := if qE l || qS l then past (q5 l) else q5 l
theorem digs_app {l m : List UInt8} (h : Num.digs l = true) (k : Num.digs m = true) : Num.digs (l ++ m) = true := by
 unfold Num.digs at *
 rw [List.all_append, h, k]
 rfl
end Go.Read
namespace Go.Proofs.YtneepokiioefgaaGreatDoor.Dec
open Go.RowKit Go.Flt Go.Read Go.Proofs.YtneepokiioefgaaGreatDoor.Pure YtneepokiioefgaaGreatDoorW.PrintWords YtneepokiioefgaaGreatDoorW.PrintLast YtneepokiioefgaaGreatDoorW.PrintMore
end Go.Proofs.YtneepokiioefgaaGreatDoor.Dec
set_option maxHeartbeats 32000000
namespace Go.Read
open Go.Flt Go.Proofs.YtneepokiioefgaaGreatDoor Go.Proofs.YtneepokiioefgaaGreatDoor.Dec
theorem dec_inj : ∀ (l m : List UInt8), Num.digs l = true → Num.digs m = true → l.length = m.length → Num.decL 0 l = Num.decL 0 m → l = m
 | [], [], _, _, _, _ => rfl
 | [], _ :: _, _, _, h, _ => by cases h
 | _ :: _, [], _, _, h, _ => by cases h
 | a :: s, b :: t, hl, hm, h, e => by
  have ha := Num.digs_mem hl a List.mem_cons_self
  have hb := Num.digs_mem hm b List.mem_cons_self
  have hs : Num.digs s = true := by unfold Num.digs at *; rw [List.all_cons, Bool.and_eq_true] at hl; exact hl.2
  have ht : Num.digs t = true := by unfold Num.digs at *; rw [List.all_cons, Bool.and_eq_true] at hm; exact hm.2
  have hst : s.length = t.length := by simpa using h
  have e1 : Num.decL 0 (a :: s) = (a.toNat - 48) * 10 ^ t.length + Num.decL 0 s := by
   show Num.decL (0 * 10 + (a.toNat - 48)) s = _
   rw [Num.decL_acc, hst, Nat.zero_mul, Nat.zero_add]
  have e2 : Num.decL 0 (b :: t) = (b.toNat - 48) * 10 ^ t.length + Num.decL 0 t := by
   show Num.decL (0 * 10 + (b.toNat - 48)) t = _
   rw [Num.decL_acc, Nat.zero_mul, Nat.zero_add]
  have l1 := Num.decL_lt s (Num.digs_mem hs)
  have l2 := Num.decL_lt t (Num.digs_mem ht)
  rw [hst] at l1
  have hq : a.toNat - 48 = b.toNat - 48 := by
   have p := Nat.pow_pos (n := t.length) (show 0 < 10 by decide)
   have q1 : Num.decL 0 (a :: s) / 10 ^ t.length = a.toNat - 48 := by
    rw [e1, Nat.add_comm, Nat.add_mul_div_right _ _ p, Nat.div_eq_of_lt l1, Nat.zero_add]
   have q2 : Num.decL 0 (b :: t) / 10 ^ t.length = b.toNat - 48 := by
    rw [e2, Nat.add_comm, Nat.add_mul_div_right _ _ p, Nat.div_eq_of_lt l2, Nat.zero_add]
   rw [← q1, ← q2, e]
  have hab : a = b := UInt8.toNat_inj.1 (by omega)
  subst hab
  rw [e1, e2] at e
  rw [dec_inj s t hs ht hst (by omega)]
theorem digit_nat {d : Nat} (h : d < 10) : (UInt8.ofNat (48 + d)).toNat = 48 + d := by
 rw [UInt8.toNat_ofNat']
 exact Nat.mod_eq_of_lt (by omega)
theorem decDigits_is (u : Nat) : Num.digs (Lib.decDigits u) = true ∧ Num.decL 0 (Lib.decDigits u) = u := by
 induction u using Nat.strongRecOn with
 | _ u ih =>
  have one : ∀ d, d < 10 → Num.digs [UInt8.ofNat (48 + d)] = true := fun d h => by
   unfold Num.digs
   rw [List.all_cons, List.all_nil, Bool.and_true, digit_nat h, Bool.and_eq_true, decide_eq_true_iff, decide_eq_true_iff]
   omega
  by_cases h : u < 10
  ·rw [Lib.decDigits, dif_pos h]
   refine ⟨one u h, ?_⟩
   show 0 * 10 + ((UInt8.ofNat (48 + u)).toNat - 48) = u
   rw [digit_nat h]
   omega
  ·obtain ⟨h1, h2⟩ := ih (u / 10) (by omega)
   rw [Lib.decDigits, dif_neg h]
   refine ⟨digs_app h1 (one _ (by omega)), ?_⟩
   rw [Num.decL_append, h2]
   show u / 10 * 10 + ((UInt8.ofNat (48 + u % 10)).toNat - 48) = u
   rw [digit_nat (by omega)]
   omega
theorem textN_dec10 (v : Nat) : Num.textN v = Lib.decDigits v := by
 obtain ⟨h1, h2⟩ := decDigits_is v
 refine dec_inj _ _ (Pure.textN_digs v) h1 ?_ (by rw [Pure.textN_dec, h2])
 rw [Lib.decDigits_length]
 rcases Nat.eq_zero_or_pos v with z | z
 ·subst z
  rw [Lib.nDigits_small (by decide)]
  rfl
 ·obtain ⟨a, b⟩ := textN_pow (v := v) (by omega)
  have hp := List.length_pos_iff.2 (textN_ne v)
  have := Lib.nDigits_unique ((Num.textN v).length - 1) v a (by rw [show (Num.textN v).length - 1 + 1 = (Num.textN v).length by omega]; exact b)
  omega
theorem itoa_dec (n : Int) : Lib.itoa n = decT n := by
 unfold Lib.itoa decT
 rw [textN_dec10, textN_dec10]
end Go.Read
set_option maxHeartbeats 32000000
namespace Go.Proofs.YtneepokiioefgaaGreatDoor.Dec
open Go.RowKit Go.Flt Go.Read PDec Go.Proofs.YtneepokiioefgaaGreatDoor.Pure YtneepokiioefgaaGreatDoorW.PrintWords YtneepokiioefgaaGreatDoorW.PrintLast YtneepokiioefgaaGreatDoorW.PrintMore
def Pow (w0 : World) : Prop := Lib.TabBelow Tryz.prog w0.heap.size w0 "internal/strconv.uint64pow10" .u64 Lib.pow10Tab
theorem d_Itoa (w0 : World) (HT : Pow w0) (n : Int) (h0 : -9223372036854775808 ≤ n) (h1 : n ≤ 9223372036854775807) (w : World) (HB : Below w0.heap.size w0 w) :
  Calls Tryz.prog 25 #[.int .i64 n] w fun e w' => e = .returned (.string (bs (decT n))) ∧ Below w.heap.size w w' := by
 refine (Tryz.strconv_Itoa n h0 h1 w (HT w HB)).mono ?_
 rintro e w' ⟨rfl, k, os, rfl⟩
 rw [itoa_dec]
 exact ⟨rfl, Lib.below_grow w.heap.size w (Nat.le_refl _) k os⟩
def sciV (d : List UInt8) (e : Int) (z : Bool) : List UInt8 := [d.take 1, [46], d.drop 1, [69], decT (if z then 0 else e - 1)].flatten
theorem decT_short (n : Int) (h0 : -9223372036854775808 ≤ n) (h1 : n ≤ 9223372036854775807) : (decT n).length ≤ 38 := by
 unfold decT
 split
 ·rw [List.length_cons]
  have := Pure.textN_len n.natAbs 4 (by omega)
  omega
 ·have := Pure.textN_len n.toNat 4 (by omega)
  omega
set_option maxRecDepth 100000 in
theorem d_science (w0 : World) (HT : Pow w0) (w : World) (HB0 : Below w0.heap.size w0 w) (d : List UInt8) (e n : Int) (z : Bool) (hd : d.length ≤ 1000) (hd0 : d ≠ []) (he : -1000 ≤ e) (he2 : e ≤ 1000) :
  Calls Tryz.prog 37 #[.string (bs d), .int .i64 e, .int .i64 n, .bool z] w fun x w' => x = .returned (.string (bs (sciV d e z))) ∧ Below w.heap.size w w' := by
 unfold sciV
 obtain ⟨x, hx⟩ : ∃ x : Int, (if z then 0 else e - 1) = x := ⟨_, rfl⟩
 have hxb : -1001 ≤ x ∧ x ≤ 1000 := by rw [← hx]; split <;> omega
 rw [hx]
 have lx := decT_short x (by omega) (by omega)
 have HB := md_ (Below.refl w.heap.size w)
 have hb1 : bs [69] = ⟨#[69]⟩ := rfl
 have hb2 : bs [46] = ⟨#[46]⟩ := rfl
 have HI := md_ (fun w' (h : Below w.heap.size w w') => d_Itoa w0 HT x (by omega) (by omega) w' (HB0.trans (h.mono HB0.size)))
 have HJ := md_ (fun (W W' : World) h => d_join5 W W' (d.take 1) [46] (d.drop 1) [69] (decT x) h (by rw [List.length_take, List.length_drop]; simp; omega))
 obtain ⟨s, hs⟩ : ∃ s, bs d = s := ⟨_, rfl⟩
 obtain ⟨r, hr⟩ : ∃ s, bs [d.take 1, [46], d.drop 1, [69], decT x].flatten = s := ⟨_, rfl⟩
 obtain ⟨t, ht⟩ : ∃ s, bs (d.take 1) = s := ⟨_, rfl⟩
 obtain ⟨u, hu⟩ : ∃ s, bs (d.drop 1) = s := ⟨_, rfl⟩
 obtain ⟨v, hv⟩ : ∃ s, bs (decT x) = s := ⟨_, rfl⟩
 have hdl := List.length_pos_iff.2 hd0
 have k1 : s.extract 0 1 = t := by rw [← hs, bs_to]; exact ht
 have k2 : s.extract 1 s.size = u := by rw [← hs, bs_from]; exact hu
 have k4 : (1 : Int) ≤ (s.size : Nat) := by rw [← hs, bs_size]; omega
 have k5 : 1 ≤ s.size := by omega
 rw [hb1, hb2, ht, hu, hv, hr] at HJ
 rw [hv] at HI
 rw [hs, hr]
 have w1 : wrap64 (e - 1) = e - 1 := i64_id (by omega) (by omega)
 have w2 : IntKind.i64.wrap (e - 1) = e - 1 := (i64_w _).trans w1
 clear hb1 hb2 hs hr ht hu hv hd hd0 hdl he he2 hxb lx HT HB0
 cases z with
 | true =>
  have hx0 : x = 0 := hx.symm
  subst hx0
  clear hx
  go_enter Tryz.func37, Tryz.ntmps37
  go_upto_region 4 with (fail)
  go_region_held3 (fun w' => Below w.heap.size w w')
   (first | assumption | exact HB.out | exact below_drew (by assumption) | exact below_drew HB.out | exact below_alloc HB.out _ | exact below_drew (below_alloc HB.out _) | exact below_alloc (by assumption) _ | exact below_drew (below_alloc (by assumption) _) | exact Below.trans (by assumption) (hb_.mono (Below.size (by assumption))))
   (first | (go_at_call 25; (refine (HI.out _ (by assumption)).mono ?_); rintro q w2 ⟨rfl, hb_⟩) | (go_at_call 38; (refine (HJ.out _ _ (by repeat (first | exact Below.refl _ _ | apply below_drew))).mono ?_); rintro q w2 ⟨rfl, hb_⟩))
  go_wp2
  go_ret
  exact ⟨rfl, by assumption⟩
 | false =>
  have hx0 : e - 1 = x := hx
  rw [hx0] at w1 w2
  have w3 : wrap64 (e - 1) = x := by rw [hx0]; exact w1
  have w4 : IntKind.i64.wrap (e - 1) = x := (i64_w _).trans w3
  clear hx hx0
  go_enter Tryz.func37, Tryz.ntmps37
  go_upto_region 4 with (fail)
  go_region_held3 (fun w' => Below w.heap.size w w')
   (first | assumption | exact HB.out | exact below_drew (by assumption) | exact below_drew HB.out | exact below_alloc HB.out _ | exact below_drew (below_alloc HB.out _) | exact below_alloc (by assumption) _ | exact below_drew (below_alloc (by assumption) _) | exact Below.trans (by assumption) (hb_.mono (Below.size (by assumption))))
   (first | (go_at_call 25; (refine (HI.out _ (by assumption)).mono ?_); rintro q w2 ⟨rfl, hb_⟩) | (go_at_call 38; (refine (HJ.out _ _ (by repeat (first | exact Below.refl _ _ | apply below_drew))).mono ?_); rintro q w2 ⟨rfl, hb_⟩))
  go_wp2
  go_ret
  exact ⟨rfl, by assumption⟩
theorem sciV_len {d : List UInt8} {e : Int} {z : Bool} (hd : d.length ≤ 17) (he : -335 ≤ e) (he2 : e ≤ 343) : (sciV d e z).length ≤ 1000 := by
 have := decT_short (if z then 0 else e - 1) (by split <;> omega) (by split <;> omega)
 unfold sciV
 simp
 omega
set_option maxRecDepth 100000 in
theorem d_Science (w0 : World) (HT : Pow w0) (w : World) (HB0 : Below w0.heap.size w0 w) (a : Nat) (ha : a < 18446744073709551616) (n : Int) : Calls Tryz.prog 24 #[.int .u64 (a : Int), .int .i64 n] w fun x w' => x = .returned (.string (bs (shownV a (sciV (repText a (many n)) (repExp a (many n)) (zero1 (repText a (many n))))))) ∧ Below w.heap.size w w' := by
 obtain ⟨hm1, hm2⟩ := many_bound n
 have key : Calls Tryz.prog 36 #[.int .u64 (a : Int), .int .i64 n, .func (.func 37) #[] #[]] w fun x w' => x = .returned (.string (bs (shownV a (sciV (repText a (many n)) (repExp a (many n)) (zero1 (repText a (many n))))))) ∧ Below w.heap.size w w' := by
  unfold shownV
  cases hf : ffin a with
  | false => exact d_shown_odd w a ha hf n 37
  | true =>
   have hl := repText_size hf hm1
   obtain ⟨b1, b2⟩ := repExp_bound hf (many n)
   exact d_shown_science w a ha hf n _ (Nat.le_trans (sciV_len (by omega) b1 b2) (by decide)) w (Below.refl _ _) (fun w' h => d_science w0 HT w' (HB0.trans (h.mono HB0.size)) _ _ _ _ (by omega) (repText_ne hm1) (by omega) (by omega))
 have HK := md_ key
 obtain ⟨u, hu⟩ : ∃ z, bs (shownV a (sciV (repText a (many n)) (repExp a (many n)) (zero1 (repText a (many n))))) = z := ⟨_, rfl⟩
 obtain ⟨aa, haa⟩ : ∃ z : Int, (a : Int) = z := ⟨_, rfl⟩
 rw [hu, haa] at HK
 rw [hu, haa]
 clear key hu haa ha hm1 hm2 HT HB0
 go_enter Tryz.func24, Tryz.ntmps24
 go_wp2_with (go_at_call 36; (with_reducible refine HK.out.mono ?_); rintro q w' ⟨rfl, hb⟩; have HB := md_ hb; clear hb)
 go_ret
 exact ⟨rfl, HB.out⟩
end Go.Proofs.YtneepokiioefgaaGreatDoor.Dec
set_option maxHeartbeats 32000000
namespace Go.Read
open Go.Flt Go.Proofs.YtneepokiioefgaaGreatDoor Go.Proofs.YtneepokiioefgaaGreatDoor.Dec
def stop (l : List UInt8) : Prop := ∀ c t, l = c :: t → isd c = false
end Go.Read
set_option maxHeartbeats 32000000
namespace Go.Flt
open Go.Num
end Go.Flt
namespace Go.Proofs.YtneepokiioefgaaGreatDoor.Dec
open Go.RowKit Go.Flt Go.Read PDec Go.Proofs.YtneepokiioefgaaGreatDoor.Pure YtneepokiioefgaaGreatDoorW.PrintWords YtneepokiioefgaaGreatDoorW.PrintLast YtneepokiioefgaaGreatDoorW.PrintMore
theorem bs_app (a b : List UInt8) : bs a ++ bs b = bs (a ++ b) := by
 apply ByteArray.ext
 simp [bs]
end Go.Proofs.YtneepokiioefgaaGreatDoor.Dec
set_option maxHeartbeats 32000000
namespace Go.Proofs.YtneepokiioefgaaGreatDoor.Dec
open Go.RowKit Go.Flt Go.Read PDec Go.Proofs.YtneepokiioefgaaGreatDoor.Pure YtneepokiioefgaaGreatDoorW.PrintWords YtneepokiioefgaaGreatDoorW.PrintLast YtneepokiioefgaaGreatDoorW.PrintMore
theorem decT_le {x : Int} (h : -2000 ≤ x) (h2 : x ≤ 2000) : (decT x).length ≤ 40 := by
 have := decT_short x (by omega) (by omega)
 omega
end Go.Proofs.YtneepokiioefgaaGreatDoor.Dec
set_option maxHeartbeats 32000000
namespace Go.Proofs.YtneepokiioefgaaGreatDoor.Dec
open Go.RowKit Go.Div PNat Go.Proofs.YtneepokiioefgaaGreatDoor.Pure YtneepokiioefgaaGreatDoorW.PrintWords YtneepokiioefgaaGreatDoorW.PrintLast YtneepokiioefgaaGreatDoorW.PrintMore
theorem one_V (W : World) (x : Int) : Kd.V (Kd.int .u32) 119 (W.alloc (.cells #[.int .u32 x] 119)) 0 (fun _ => True) (.slice (some ⟨W.heap.size, 0, none⟩) 1 1) [x] := by
 have h : Kd.R (Kd.int .u32) 119 (W.alloc (.cells #[.int .u32 x] 119)) W.heap.size (fun _ => True) (.slice (some ⟨W.heap.size, 0, none⟩) 1 1) [x] :=
  ⟨fun _ _ => trivial, [.int .u32 x], World.ownsRow_lit W _ 1 (Nat.le_refl _) (by simp [maxLen]) rfl, Reps.one (show Kd.M (Kd.int .u32) _ _ _ x [.int .u32 x] from rfl) (Reps.none _ _)⟩
 exact Kd.V_mono (Kd.V_map (Kd.R_V (base' := 0) h) (fun _ hf => hf)) (fun _ _ => trivial)
set_option maxRecDepth 100000 in
theorem r_small (w : World) {v : Value} {a : Nat} (h0 : Nm w v a) (fa : Fit a) (d : Nat) (hd0 : 0 < d) (hd : d < 4294967296) :
  Calls Tryz.prog 132 #[v, .int .u32 (d : Int)] w fun e w' => ∃ q r, e = .returned (.tuple #[q, r]) ∧ Nm w' q (a / d) ∧ Nm w' r (a % d) ∧ Below w.heap.size w w' := by
 obtain ⟨A, c, rfl, hlc, hC, _⟩ := h0.open
 obtain ⟨la, hla⟩ : ∃ l, Num.wordsN a = l := ⟨_, rfl⟩
 have hok := Num.wordsN_ok a
 have hval := Num.wordsN_val a
 have hlen : (Num.wordsN a).length ≤ 2000 := fa
 rw [hla] at hC hlc hok hval hlen ⊢
 obtain ⟨n, hn⟩ : ∃ n, la.length = n := ⟨_, rfl⟩
 rw [hn] at hC hlc hlen ⊢
 have HC := md_ hC
 have HOK := md_ hok
 have HN := md_ (show la.length = n ∧ n ≤ 2000 from ⟨hn, hlen⟩)
 have HV := md_ hval
 have HD := md_ (show 0 < d ∧ d < 4294967296 from ⟨hd0, hd⟩)
 have HB := md_ (Below.refl w.heap.size w)
 obtain ⟨dd, hdd⟩ : ∃ z : Int, (d : Int) = z := ⟨_, rfl⟩
 have HDD := md_ hdd
 have w1 : wrap64 ((n : Int) - 1) = (n : Int) - 1 := i64_id (by omega) (by omega)
 have w2 : IntKind.i64.wrap ((n : Int) - 1) = (n : Int) - 1 := (i64_w _).trans w1
 have o1 : (0 : Int) ≤ (n : Int) := by omega
 have o2 : ((n : Int)).toNat ≤ 70368744177664 := by omega
 have p1 := decide_eq_true o1
 have p2 := decide_eq_true o2
 rw [hdd]
 clear h0 fa hla hok hval hlen hn hlc hC hd0 hd hdd
 go_enter Tryz.func132, Tryz.ntmps132
 go_wp2_with ((with_reducible refine gate_dst (N := 11) rfl ?_); refine Kd.R_make (Kd.int .u32) _ 119 rfl (N := 11) rfl 96 _ _ rfl (n : Int) rfl rfl Tryz.underlying96 (.int .u32 0) 4 info119 rfl (by decide) (by omega) 0 (ok := fun _ => True) (okp := fun _ => True) rfl (fun _ hk => hk) trivial o1 (Nat.le_trans (Nat.mul_le_mul_right _ o2) (by omega)) (Below.refl _ _) (Nat.le_refl _) ?_; intro vq wq ho hb hg_ hnew_; clear hg_ hnew_; have HO := md_ (Kd.R_lower ho (below_size HB.out)); have n1_ := md_ (below_step HB.out hb); clear HB; have HB := n1_; clear n1_; clear hb ho)
 rw [Int.toNat_natCast] at HO
 have hrep : ∀ z ∈ List.replicate n (0 : Int), 0 ≤ z ∧ z < 4294967296 := fun z hz => by rw [List.eq_of_mem_replicate hz]; decide
 have hend : hi (List.replicate n 0) n = 0 := by
  have := hi_end (List.replicate n 0)
  rw [List.length_replicate] at this
  exact this
 have hendA : hi la n = 0 := by rw [← HN.out.1]; exact hi_end la
 go_loopg [7, 8] n (fun kq v7 v8 wr => ∃ (x : List Int) (r : Nat), v7 = .int .u64 (r : Int) ∧ v8 = .int .i64 ((kq : Int) - 1) ∧ Aside0 (kq ≤ n ∧ x.length = n ∧ Num.okW x) ∧ Aside0 (hi x kq = hi la kq / d ∧ r = hi la kq % d) ∧ Aside0 (Kd.R (Kd.int .u32) 119 wr w.heap.size (fun _ => True) vq x) ∧ Aside0 (Below w.heap.size w wr))
 case atStart => exact ⟨List.replicate n 0, 0, rfl, by first | rfl | (rw [w1]) | (rw [w2]), ⟨Nat.le_refl _, List.length_replicate, hrep⟩, ⟨by rw [hend, hendA, Nat.zero_div, Nat.zero_mod]; exact ⟨rfl, rfl⟩⟩, HO, HB⟩
 case round =>
  clear HO HB hrep hend hendA
  obtain ⟨x, r, rfl, h8, HQ, HI, HO, HB⟩ := hrel
  cases gk with
  | zero =>
   rw [show ((0 : Nat) : Int) - 1 = -1 from rfl] at h8
   subst h8
   have hq : Num.valN x = a / d := by have := HI.out.1; rw [hi_zero, hi_zero, HV.out] at this; exact this
   have hr : r = a % d := by have := HI.out.2; rw [hi_zero, HV.out] at this; exact this
   have HN1 := md_ (fun (wq : World) (hB : Below w.heap.size w wq) (hx : Kd.R (Kd.int .u32) 119 wq w.heap.size (fun _ => True) vq x) => r_NormV (Kd.V_mono (Kd.V_map (Kd.R_V (base' := 0) hx) (fun _ hf => hf)) (fun _ _ => trivial)) HQ.out.2.2 (by have := HQ.out; have := HN.out; omega))
   rw [hq] at HN1
   have hrd : r < d := by rw [hr]; exact Nat.mod_lt _ HD.out.1
   obtain ⟨rr, hrr⟩ : ∃ z : Int, (r : Int) = z := ⟨_, rfl⟩
   have HN2 := md_ (fun (W : World) => r_NormV (one_V W rr) (by intro z hz; rw [List.mem_singleton.1 hz]; have := HD.out; omega) (by simp))
   rw [show Num.valN [rr] = a % d by rw [← hr]; simp [Num.valN]; omega] at HN2
   have u1 : IntKind.u32.wrap rr = rr := by rw [IntKind.wrap_u32]; have := HD.out; omega
   rw [hrr]
   clear hrr hrd hr hq
   go_wp2_with (first
    | (go_at_call 77; (with_reducible refine (HN1.out _ HB.out HO.out).mono ?_); rintro e w' ⟨q1, rfl, hr, hb⟩; have hq1 := md_ hr; replace HB := bt_ HB hb; clear hb hr)
    | (go_at_call 77; (refine (HN2.out _).mono ?_); rintro e w' ⟨q2, rfl, hr, hb⟩; have hq2 := md_ hr; replace hq1 := md_ ((hq1.out.below (below_alloc (Below.refl _ _) _)).below hb); replace HB := md_ (below_step (below_alloc HB.out _) hb); clear hb hr))
   go_ret2
   exact ⟨_, _, rfl, hq1.out, hq2.out, HB.out⟩
  | succ i =>
   rw [show ((i + 1 : Nat) : Int) - 1 = (i : Int) by omega] at h8
   subst h8
   have hin : i < n := by have := HQ.out.1; omega
   have hil : i < la.length := by have := HN.out.1; omega
   have hix : i < x.length := by have := HQ.out.2.1; omega
   obtain ⟨g1, g2⟩ := get_nat HOK.out hil
   obtain ⟨wi, hwi⟩ : ∃ z : Nat, (la[i]).toNat = z := ⟨_, rfl⟩
   rw [hwi] at g1 g2
   obtain ⟨ad, hA, hz0⟩ := Kd.at_int HC.out (i : Int) (by omega) (by omega)
   subst hA
   have hrd : rd la (i : Int) = (wi : Int) := by
    unfold rd
    rw [Int.toNat_natCast, List.getD_eq_getElem?_getD, List.getElem?_eq_getElem hil]
    exact g1.symm
   rw [hrd, Int.toNat_natCast] at hz0
   have hz := pw_cell_below HB.out hz0
   obtain ⟨go, co, rfl, gb, gl, cl, HG⟩ := Kd.R_form HO.out (by omega)
   obtain ⟨hx, hf⟩ := Kd.R_celln 0 HO.out (i : Int) (by omega) (by omega)
   rw [Int.toNat_natCast] at hx hf
   obtain ⟨y, hy⟩ : ∃ z : Nat, (r * 4294967296 + wi) / d = z := ⟨_, rfl⟩
   obtain ⟨r2, hr2⟩ : ∃ z : Nat, (r * 4294967296 + wi) % d = z := ⟨_, rfl⟩
   have hrl : r < d := by rw [HI.out.2]; exact Nat.mod_lt _ HD.out.1
   have hyl : y < 4294967296 := by rw [← hy]; exact step_lt hrl g2
   have c1 : (0 : Int) ≤ (i : Int) := by omega
   have c2 : (i : Int) < (n : Int) := by omega
   have c3 : (i : Int) < (x.length : Int) := by omega
   obtain ⟨s, hs⟩ : ∃ z : Int, ((r * 4294967296 + wi : Nat) : Int) = z := ⟨_, rfl⟩
   obtain ⟨wv, hwv⟩ : ∃ z : Int, (wi : Int) = z := ⟨_, rfl⟩
   obtain ⟨rv, hrv⟩ : ∃ z : Int, (r : Int) = z := ⟨_, rfl⟩
   obtain ⟨yv, hyv⟩ : ∃ z : Int, (y : Int) = z := ⟨_, rfl⟩
   obtain ⟨r2v, hr2v⟩ : ∃ z : Int, (r2 : Int) = z := ⟨_, rfl⟩
   have hdd := HDD.out
   have b1 : bits .or .u64 (rv * 4294967296) wv = s := by
    rw [← hrv, ← hwv, show (r : Int) * 4294967296 = ((r * 4294967296 : Nat) : Int) by omega, u64_or_nat _ _ (by have := HD.out; omega) (by omega), ← hs]
    congr 1
    have p32 : (2 : Nat) ^ 32 = 4294967296 := rfl
    exact nat_join 32 (r * 4294967296) wi (by rw [p32]; exact Nat.mul_mod_left _ _) (by rw [p32]; exact g2)
   have b2 : IntKind.u64.wrap (rv * 4294967296) = rv * 4294967296 := by rw [IntKind.wrap_u64]; have := HD.out; omega
   have d1 : IntKind.u64.wrap dd = dd := by rw [IntKind.wrap_u64]; have := HD.out; omega
   have d2 : s.tdiv dd = yv := by
    rw [← hs, ← hdd, ← hyv, ← hy]
    exact (Int.ofNat_tdiv _ _).symm
   have d5 : s.tmod dd = r2v := by
    rw [← hs, ← hdd, ← hr2v, ← hr2]
    exact (Int.ofNat_tmod _ _).symm
   have d9 : ¬ dd = 0 := by have := HD.out; omega
   have d10 : IntKind.u64.wrap wv = wv := by rw [IntKind.wrap_u64]; omega
   have d3 : IntKind.u64.wrap yv = yv := by rw [IntKind.wrap_u64]; omega
   have d4 : IntKind.u32.wrap yv = yv := by rw [IntKind.wrap_u32]; omega
   have d6 : yv % 4294967296 = yv := by omega
   have d7 : wrap64 ((i : Int) - 1) = (i : Int) - 1 := by have := HN.out; rw [i64_id (by omega) (by omega)]
   have d8 : IntKind.i64.wrap ((i : Int) - 1) = (i : Int) - 1 := (i64_w _).trans d7
   have HP := md_ (Kd.R_putg HO.out (i : Int) yv)
   rw [Int.toNat_natCast] at HP
   have GB := md_ gb
   have HQ2 := md_ (show i ≤ n ∧ (x.set i yv).length = n ∧ Num.okW (x.set i yv) from ⟨by omega, by rw [List.length_set]; exact HQ.out.2.1, okW_set HQ.out.2.2 i (by omega)⟩)
   have HI2 := md_ (show hi (x.set i yv) i = hi la i / d ∧ r2 = hi la i % d from by
    obtain ⟨s1, s2⟩ := step_div (h := hi la (i + 1)) (w := wi) HD.out.1
    rw [hi_set hix, hi_step hil, hwi, HI.out.1, s1, s2, ← HI.out.2, hy, hr2]
    refine ⟨?_, rfl⟩
    congr 1
    omega)
   rw [hwv] at hz
   rw [hrv]
   have HR2 := md_ hr2v
   clear hs hwv hrv hyv hr2v hdd g1 g2 hwi hrd hz0 hy hr2 hrl hyl gb gl cl HG hix hil hin HI HO
   go_wp2
   go_roundg i
   case measure => omega
   case rel => exact ⟨x.set i yv, r2, by rw [HR2.out], by first | rfl | rw [d7] | rw [d8], HQ2, HI2, ⟨HP.out.1⟩, ⟨below_set HB.out GB.out⟩⟩
end Go.Proofs.YtneepokiioefgaaGreatDoor.Dec
set_option maxHeartbeats 32000000
namespace Go.Proofs.YtneepokiioefgaaGreatDoor.Dec
open Go.RowKit Go.Div PNat Go.Proofs.YtneepokiioefgaaGreatDoor.Pure YtneepokiioefgaaGreatDoorW.PrintWords YtneepokiioefgaaGreatDoorW.PrintLast YtneepokiioefgaaGreatDoorW.PrintMore
def Own (w : World) (base : Nat) (v : Value) (n : Nat) : Prop := Kd.R (Kd.int .u32) 119 w base (fun _ => True) v (Num.wordsN n)
theorem Own.nm {w : World} {base : Nat} {v : Value} {n : Nat} (h : Own w base v n) : Nm w v n := Nm.of_R h
theorem Own.below {w w1 : World} {base : Nat} {v : Value} {n : Nat} (h : Own w base v n) (hb : Below w.heap.size w w1) : Own w1 base v n := Kd.R_below h hb
theorem Own.lower {w : World} {base b : Nat} {v : Value} {n : Nat} (h : Own w base v n) (hb : b ≤ base) : Own w b v n := Kd.R_lower h hb
theorem R_keep {w w1 : World} {base g : Nat} {v : Value} {xs : List Int} (h : Kd.R (Kd.int .u32) 119 w base (fun _ => True) v xs) (hg : w.grownBy w1 (some g)) (hb : g < base) : Kd.R (Kd.int .u32) 119 w1 base (fun _ => True) v xs :=
 Kd.R_mono (Kd.R_grown (Kd.R_bound h) hg (fun k hk e => by injection e with e; have := hk.2.1; omega)) (fun _ _ => trivial)
theorem r_NormO {w : World} {v : Value} {l : List Int} (h : Kd.V (Kd.int .u32) 119 w 0 (fun _ => True) v l) (ok : Num.okW l) (hl : l.length ≤ 100000) :
  Calls Tryz.prog 77 #[v] w fun e w' => ∃ r, e = .returned r ∧ Own w' w.heap.size r (Num.valN l) ∧ Below w.heap.size w w' := by
 obtain ⟨A, c, rfl⟩ := Kd.V_slice h
 obtain ⟨_, h2, h3⟩ := Kd.V_reads' h
 have he := ev_rnorm l (by omega)
 rw [Num.trim_words ok] at he
 obtain ⟨k, hk⟩ := Ev.at he
 refine (bobbinref2_Norm.calls k _ _ _ _ w h3 h2 hk).mono ?_
 rintro e w' ⟨v, rfl, h1, h2⟩
 exact ⟨v, rfl, h1, h2⟩
theorem one_R (W : World) (x : Int) : Kd.R (Kd.int .u32) 119 (W.alloc (.cells #[.int .u32 x] 119)) W.heap.size (fun _ => True) (.slice (some ⟨W.heap.size, 0, none⟩) 1 1) [x] :=
 ⟨fun _ _ => trivial, [.int .u32 x], World.ownsRow_lit W _ 1 (Nat.le_refl _) (by simp [maxLen]) rfl, Reps.one (show Kd.M (Kd.int .u32) _ _ _ x [.int .u32 x] from rfl) (Reps.none _ _)⟩
theorem one_Nm (W : World) (x : Nat) (h : x < 4294967296) (h0 : x ≠ 0) : Nm (W.alloc (.cells #[.int .u32 (x : Int)] 119)) (.slice (some ⟨W.heap.size, 0, none⟩) 1 1) x := by
 have hw : Num.wordsN x = [(x : Int)] := by
  rw [Num.wordsN_pos (by omega), Nat.mod_eq_of_lt h, Nat.div_eq_of_lt h, Num.wordsN_zero]
 unfold Nm
 rw [hw]
 exact one_V W x
set_option maxRecDepth 100000 in
theorem r_Divide_one {w : World} {v u : Value} {a b : Nat} (h0 : Nm w v a) (h1 : Nm w u b) (fa : Fit a) (hb0 : b ≠ 0) (hb : b < 4294967296) :
  Calls Tryz.prog 105 #[v, u] w fun e w' => ∃ q r, e = .returned (.tuple #[q, r, .int .i64 0]) ∧ Nm w' q (a / b) ∧ Nm w' r (a % b) ∧ Below w.heap.size w w' := by
 have fb : Fit b := fit_lt (b := 32) hb (by omega)
 have L0 := md_ (r_large h0 fa)
 have L1 := md_ (r_large h1 fb)
 have T0 := md_ (r_trimmed h0)
 have T1 := md_ (r_trimmed h1)
 have S := md_ (r_small w h0 fa b (Nat.pos_of_ne_zero hb0) hb)
 have hw : Num.wordsN b = [(b : Int)] := by
  rw [Num.wordsN_pos (by omega), Nat.mod_eq_of_lt hb, Nat.div_eq_of_lt hb, Num.wordsN_zero]
 have hlen : (Num.wordsN b).length = 1 := by rw [hw]; rfl
 obtain ⟨A1, c1, rfl, l1, C1, _⟩ := h1.open
 rw [hlen] at L1 T1 l1 C1
 rw [hlen]
 obtain ⟨ad, hA, hz⟩ := head_word (L := 1) (by rw [hlen] at h1; exact h1) hlen (by decide)
 subst hA
 rw [Nat.mod_eq_of_lt hb] at hz
 obtain ⟨bb, hbb⟩ : ∃ z : Int, (b : Int) = z := ⟨_, rfl⟩
 rw [hbb] at hz S
 obtain ⟨A0, c0, rfl, _, _, _⟩ := h0.open
 clear h0 h1 fa hb0 hb fb hw hlen l1 C1 hbb
 go_enter Tryz.func105, Tryz.ntmps105
 go_wp2_with (first
  | (go_at_call 101; (with_reducible refine L0.out.mono ?_); rintro e w' ⟨rfl, rfl⟩)
  | (go_at_call 101; (with_reducible refine L1.out.mono ?_); rintro e w' ⟨rfl, rfl⟩)
  | (go_at_call 78; (with_reducible refine T0.out.mono ?_); rintro e w' ⟨rfl, rfl⟩)
  | (go_at_call 78; (with_reducible refine T1.out.mono ?_); rintro e w' ⟨rfl, rfl⟩)
  | (go_at_call 132; (with_reducible refine S.out.mono ?_); rintro e w' ⟨q, r, rfl, hq, hr, hb⟩; have n0_ := md_ hq; have n1_ := md_ hr; have n2_ := md_ hb; clear hq hr hb; have hq := n0_; have hr := n1_; have HB := n2_; clear n0_ n1_ n2_))
 go_ret3
 exact ⟨_, _, rfl, hq.out, hr.out, HB.out⟩
end Go.Proofs.YtneepokiioefgaaGreatDoor.Dec
set_option maxHeartbeats 32000000
namespace Go.Div
open Go.Proofs.YtneepokiioefgaaGreatDoor
def wd (l : List Int) (i : Nat) : Nat := (l.getD i 0).toNat
theorem wd_in {l : List Int} {i : Nat} (h : i < l.length) : wd l i = (l[i]).toNat := by
 unfold wd
 rw [List.getD_eq_getElem?_getD, List.getElem?_eq_getElem h]
 rfl
theorem wd_out {l : List Int} {i : Nat} (h : l.length ≤ i) : wd l i = 0 := by
 unfold wd
 rw [List.getD_eq_getElem?_getD, List.getElem?_eq_none h]
 rfl
theorem take_wd (l : List Int) (i : Nat) : Num.valN (l.take (i + 1)) = Num.valN (l.take i) + wd l i * 4294967296 ^ i := by
 rcases Nat.lt_or_ge i l.length with c | c
 ·rw [wd_in c]; exact valN_take c
 ·rw [wd_out c, List.take_of_length_le (by omega), List.take_of_length_le c, Nat.zero_mul, Nat.add_zero]
theorem okW_snoc {l : List Int} (ok : Num.okW l) {y : Int} (h : 0 ≤ y ∧ y < 4294967296) : Num.okW (l ++ [y]) := by
 intro z hz
 rcases List.mem_append.1 hz with g | g
 ·exact ok z g
 ·rw [List.mem_singleton.1 g]; exact h
end Go.Div
set_option maxHeartbeats 32000000
namespace Go.Div
open Go.Proofs.YtneepokiioefgaaGreatDoor
def SubA (la lb : List Int) (i c : Nat) (o : List Int) : Prop :=
 o.length = i ∧ Num.okW o ∧ c ≤ 1 ∧ Num.valN (la.take i) + c * 4294967296 ^ i = Num.valN o + Num.valN (lb.take i)
theorem sub_start (la lb : List Int) : SubA la lb 0 0 [] := ⟨rfl, Num.okW_nil, by decide, by rw [List.take_zero, List.take_zero]; rfl⟩
theorem sub_step {la lb o : List Int} {i c d : Nat} {y : Int} (h : SubA la lb i c o) (hy : 0 ≤ y ∧ y < 4294967296) (hd : d ≤ 1) (e : (wd la i : Int) - c - wd lb i + 4294967296 * d = y) :
  SubA la lb (i + 1) d (o ++ [y]) := by
 obtain ⟨h1, h2, h3, h4⟩ := h
 refine ⟨by rw [List.length_append, h1]; rfl, okW_snoc h2 hy, hd, ?_⟩
 rw [Num.val_snoc, h1, take_wd, take_wd, Nat.pow_succ]
 generalize 4294967296 ^ i = P at *
 have e2 : wd la i + 4294967296 * d = y.toNat + c + wd lb i := by omega
 have e3 : wd la i * P + d * (P * 4294967296) = y.toNat * P + c * P + wd lb i * P := by
  rw [← Nat.add_mul, ← Nat.add_mul, ← e2, Nat.add_mul, Nat.mul_comm P, ← Nat.mul_assoc, Nat.mul_comm d]
 rw [Nat.mul_comm P y.toNat] at *
 omega
theorem sub_end {la lb o : List Int} {i c : Nat} (h : SubA la lb i c o) (ha : la.length ≤ i) (hb : lb.length ≤ i) (hle : Num.valN lb ≤ Num.valN la) : Num.valN o = Num.valN la - Num.valN lb := by
 obtain ⟨h1, h2, h3, h4⟩ := h
 rw [List.take_of_length_le ha, List.take_of_length_le hb] at h4
 have h5 := Num.valN_lt h2
 rw [h1] at h5
 have h6 : c = 0 := by
  rcases Nat.eq_zero_or_pos c with z | z
  ·exact z
  ·exfalso
   have : c = 1 := by omega
   subst this
   omega
 subst h6
 omega
end Go.Div
