/- The law TokensPlay answers true at every input its row admits: the row, and its tied card. -/
import Derived.Test.YtneepokiioefgaaGreatDoorRows
import Derived.Test.YtneepokiioefgaaGreatDoorPlay
import Derived.Deep.Slices
import Derived.Deep.Fields
import Derived.WalkKit
import Derived.ProofKit
import Derived.OpenShut
import Derived.ShutString
import Derived.ChangeOld
import Derived.Below
import Derived.SizedLaws
import Derived.Lay
import Derived.LaidOnce
import Derived.SevenTiedAt
import Derived.Carry
import Derived.LaidSub
import Derived.Lib.LaidTab
import Derived.Lib.AppendIntMem
import Derived.Test.YtneepokiioefgaaGreatDoorTie
import Derived.Test.YtneepokiioefgaaGreatDoorCards
namespace Go.Proofs.YtneepokiioefgaaGreatDoor.tokensPlay
open Go.ChangeShapes Go.WideShapes Go.ChangeAt Go.RowKit Go.Toks Go.Proofs.YtneepokiioefgaaGreatDoorW.PrintWords
open Go.ChangeMaps (open_string shut_string)
set_option linter.unusedVariables false
set_option linter.unusedSimpArgs false
theorem own : ownKnob Tryz.prog.godebug = none := by kernel_rfl
theorem laidOut : laidOutB Tryz.prog = true := by kernel_rfl
theorem powers {W : World} (h : laidMetH Tryz.prog Rows.tokensPlayRow.laid W) : Pools.Pow W := by
  have h1 := h.filter (fun x => x.1 == "internal/strconv.uint64pow10")
  rw [show Rows.tokensPlayRow.laid.filter (fun x => x.1 == "internal/strconv.uint64pow10") = [("internal/strconv.uint64pow10", Lib.tabData .u64 Lib.pow10Tab)] by kernel_rfl] at h1
  rw [MakeChecks.laidMetH_plain _ _ _ (by kernel_rfl)] at h1
  exact Lib.tabBelow_of_tabIs (Lib.tabIs_of_head (g := 0) (by kernel_rfl) (by kernel_rfl) Tryz.underlying136 Tryz.underlying60 (by kernel_rfl) (by kernel_rfl) h1)
set_option maxRecDepth 100000 in
/-- a Step's seven cells -/
theorem step_cells {H : Type} {enc : TypeId × Value → H} {W : World} {base : Nat} {spare : Nat → Bool} {held : Bool} {fuel : Nat} {x : DataW H × List MemPlace} {l : List Value} (hf : DataW.trod enc Tryz.prog W base spare held fuel 29 l = some x) :
    ∃ k d p t a b c : Int, l = [.int .i64 k, .int .i64 d, .int .i64 p, .int .i64 t, .int .i64 a, .int .i64 b, .int .i64 c] := by
  obtain ⟨xs, n, _, hx, hsz, hlen, hg⟩ := DataW.trod_struct Tryz.underlying29 hf
  match l, hsz.trans (show Tryz.prog.cellsOf 29 = 7 by kernel_rfl) with
  | [c0, c1, c2, c3, c4, c5, c6], _ =>
    have k3 : Tryz.prog.cellsOf 3 = 1 := by kernel_rfl
    have k23 : Tryz.prog.cellsOf 23 = 3 := by kernel_rfl
    match xs, hlen with
    | [y0, y1, y2, y3, y4], _ =>
      have g0 : DataW.trod enc Tryz.prog W base spare held n 3 [c0] = some y0 := by simpa [Value.cells, k3] using hg 0 _ rfl
      have g1 : DataW.trod enc Tryz.prog W base spare held n 3 [c1] = some y1 := by simpa [Value.cells, k3] using hg 1 _ rfl
      have g2 : DataW.trod enc Tryz.prog W base spare held n 3 [c2] = some y2 := by simpa [Value.cells, k3] using hg 2 _ rfl
      have g3 : DataW.trod enc Tryz.prog W base spare held n 3 [c3] = some y3 := by simpa [Value.cells, k3] using hg 3 _ rfl
      have g4 : DataW.trod enc Tryz.prog W base spare held n 23 [c4, c5, c6] = some y4 := by simpa [Value.cells, k23] using hg 4 _ rfl
      obtain ⟨n0, e0, -, -⟩ := DataW.trod_int Tryz.underlying3 g0
      obtain ⟨n1, e1, -, -⟩ := DataW.trod_int Tryz.underlying3 g1
      obtain ⟨n2, e2, -, -⟩ := DataW.trod_int Tryz.underlying3 g2
      obtain ⟨n3, e3, -, -⟩ := DataW.trod_int Tryz.underlying3 g3
      obtain ⟨zs, m, _, hz, _, hzl, hgz⟩ := DataW.trod_struct Tryz.underlying23 g4
      match zs, hzl with
      | [z0, z1, z2], _ =>
        have q0 : DataW.trod enc Tryz.prog W base spare held m 3 [c4] = some z0 := by simpa [k3] using hgz 0 _ rfl
        have q1 : DataW.trod enc Tryz.prog W base spare held m 3 [c5] = some z1 := by simpa [k3] using hgz 1 _ rfl
        have q2 : DataW.trod enc Tryz.prog W base spare held m 3 [c6] = some z2 := by simpa [k3] using hgz 2 _ rfl
        obtain ⟨n4, e4, -, -⟩ := DataW.trod_int Tryz.underlying3 q0
        obtain ⟨n5, e5, -, -⟩ := DataW.trod_int Tryz.underlying3 q1
        obtain ⟨n6, e6, -, -⟩ := DataW.trod_int Tryz.underlying3 q2
        simp only [List.cons.injEq, and_true] at e0 e1 e2 e3 e4 e5 e6
        subst e0 e1 e2 e3 e4 e5 e6
        exact ⟨n0, n1, n2, n3, n4, n5, n6, rfl⟩
theorem open_steps {H : Type} {enc : TypeId × Value → H} {W : World} {spare : Nat → Bool} {held : Bool} {A : Option Addr} {len cap : Nat} {d : DataW H} {p : List MemPlace} (h : DataW.Trod enc Tryz.prog W 0 spare held 46 (.slice A len cap) d p) : Pools.ReadsSteps W A len := by
  intro hp
  obtain ⟨fuel, hf⟩ := h
  rcases Deep.open_slice Tryz.underlying46 hf with ⟨hcs, _⟩ | ⟨a, l, c, m, n, D, Pl, hcs, _, hl, _, hm, _, hi⟩
  · simp [Value.cells] at hcs
    omega
  · simp [Value.cells] at hcs
    obtain ⟨rfl, rfl, rfl⟩ := hcs
    refine ⟨a, rfl, fun j hj => ?_⟩
    have k29 : Tryz.prog.cellsOf 29 = 7 := by kernel_rfl
    obtain ⟨cs, hc, ht⟩ := hi j (by rw [hm]; split <;> omega)
    rw [k29] at hc
    obtain ⟨k, d, p, t, a', b, c, rfl⟩ := step_cells ht
    obtain ⟨_, _, hat⟩ := World.cells?_some hc
    refine ⟨k, d, p, t, a', b, c, ?_, ?_, ?_, ?_, ?_, ?_, ?_⟩
    · have := hat 0 (by omega); rw [Deep.add_add] at this; exact this
    · have := hat 1 (by omega); rw [Deep.add_add] at this; exact this
    · have := hat 2 (by omega); rw [Deep.add_add] at this; exact this
    · have := hat 3 (by omega); rw [Deep.add_add] at this; exact this
    · have := hat 4 (by omega); rw [Deep.add_add] at this; exact this
    · have := hat 5 (by omega); rw [Deep.add_add] at this; exact this
    · have := hat 6 (by omega); rw [Deep.add_add] at this; exact this
set_option maxRecDepth 100000 in
theorem lifted (os : Os) (started : os.Started) (H : Type) (enc : TypeId × Value → H) :
    ReturnsInHanded {} Tryz.checked os 7 .any (fun w args => (Rows.tokensPlaySpec.pre enc Tryz.prog Tryz.f7 Rows.tokensPlayRow.domain false w args ∧ laidMetH Tryz.prog Rows.tokensPlayRow.laid w) ∧ sizedMet enc Tryz.prog Tryz.f7 (OpenSpec.ofChange Rows.tokensPlaySpec) false w args) (Rows.tokensPlaySpec.post enc Tryz.prog Tryz.f7 false true false false) := by
  refine returnsInHanded_of_change_and (C := Tryz.checked) (X := fun w _ => laidMetH Tryz.prog Rows.tokensPlayRow.laid w) (fun _ _ _ hh h => h.of_heap hh) own started (by kernel_rfl) Tryz.func7
    (ChangeSpec.witness_shaped (enc := enc) (C := Tryz.checked) (os := os) (X := fun w _ => laidMetH Tryz.prog Rows.tokensPlayRow.laid w) false (World.laidAll Tryz.prog os Rows.tokensPlayRow.laid) #[.bool false, .slice none 0 0] 8 (World.laidAll_os _ _ _)
      (World.shaped_of_ZipB (by kernel_rfl) (by kernel_rfl)) (by kernel_rfl) (by kernel_rfl) (by kernel_rfl)
      (by rw [MakeChecks.laidMetH_plain _ _ _ (by kernel_rfl)]; exact laidMet_laidAll _ (by kernel_rfl) (by kernel_rfl))) ?_
  intro W base args ds gs before hval0 hW hcnd hsz0 hlaid _
  have hsz : (DataW.weightsEach Tryz.prog (Tryz.f7.params.toList ++ Rows.tokensPlaySpec.plain.varTypes Tryz.prog) (ds ++ gs)).all (· ≤ reachBytes) = true := hsz0
  have hval : ∀ (j : Nat) t v, Tryz.f7.params[j]? = some t → args[j]? = some v → Value.okWide Tryz.prog W .any base t v := hval0
  have HPOW := powers hlaid
  have hW' := hW
  obtain ⟨p, q, hA0, hV, rfl, hfz, hnd⟩ := hW
  have hA : DataW.TrodAll enc Tryz.prog W 0 (fun _ => true) true Tryz.f7.params.toList args.toList ds p := hA0
  rw [Tryz.params7] at hA hval hsz
  obtain ⟨v0, vs0, d0, ds0, p0, q0, hargs, rfl, rfl, h0, r0⟩ := trodAll_cons hA
  obtain ⟨v1, vs1, d1, ds1, p1, q1, rfl, rfl, rfl, h1, r1⟩ := trodAll_cons r0
  obtain ⟨rfl, rfl, rfl⟩ := trodAll_nil r1
  obtain rfl : args = #[v0, v1] := by cases args; simp_all
  obtain ⟨rfl, rfl⟩ := trodVars_none hV
  obtain ⟨a0, rfl, rfl, rfl⟩ := open_bool Tryz.underlying4 (hval 0 4 v0 rfl rfl) h0
  have k1 := h1
  have lt1 : ∀ x ∈ p1, x.block < W.heap.size := by obtain ⟨m, hm⟩ := k1; exact DataW.trod_lt m _ _ _ hm
  obtain ⟨a1, len1, cap1, rfl⟩ := okWide_slice Tryz.underlying46 (hval 1 46 v1 rfl rfl)
  clear hA0 hval0 hsz0 hsz
  refine (Pools.play_any a0 a1 len1 cap1 W HPOW (open_steps h1)).mono fun e W' ⟨he, bel⟩ => ?_
  subst he
  exact ⟨_, rfl, _, _, _, [], _, [], hW', trodAll_mk1 (shut_bool Tryz.underlying4 _), (trodAll_cons_mk (shut_bool Tryz.underlying4 _) (trodAll_cons_mk (Below.trod laidOut (by kernel_rfl) (of_decide_eq_true (by kernel_rfl)) k1 bel lt1) trodAll_mk0)), rfl, bel.frame _, fun h => by cases h⟩
theorem over : Rows.tokensPlayRow.holds Tryz.pinned (OpenSpec.ofChange Rows.tokensPlaySpec) :=
  OpenClaim.holds_of_wide 7 Tryz.f7 rfl rfl rfl rfl rfl rfl rfl ⟨rfl, rfl, rfl, rfl, rfl⟩ rfl rfl rfl rfl rfl (by kernel_rfl) Tryz.func7 (by kernel_rfl)
    (of_decide_eq_true (by kernel_rfl)) (by unfold Func.isWrapper; first | (rw [if_pos (by decide +kernel)]; kernel_rfl) | (rw [if_neg (by decide +kernel)]; exact ⟨rfl, rfl⟩))
    (fun os started H enc _ => lifted os started H enc)
theorem proved : Rows.TokensPlaySaid := over
#print axioms proved
end Go.Proofs.YtneepokiioefgaaGreatDoor.tokensPlay
namespace Go.Proofs.YtneepokiioefgaaGreatDoor
/-- The tied card of the row. -/
theorem tokensPlay_card : Rows.TokensPlayCardSaid :=
  Claim7.holds_tied_plain_at .later [] [.data, .data, .data, .data, .pinned] true (true, "64d2bffa6d20fc99deb5ea35321e912089093c95a3b9f0239533feb4298cc081") false tokensPlay.proved (fun _ h => by cases h) (by kernel_rfl) (fun _ h => by cases h) tokensPlay_row_tie rfl ⟨rfl, rfl⟩ (by kernel_rfl) rfl
    (fun f fn hf hfn => by
      obtain rfl : f = 7 := Option.some.inj ((show Tryz.prog.funcNamed "bobbin/bobbinlaw15.TokensPlay" = some 7 by kernel_rfl).symm.trans hf) |>.symm
      obtain rfl : fn = Tryz.f7 := (Option.some.inj (Tryz.func7.symm.trans hfn)).symm
      exact ⟨by kernel_rfl, fun j t ht => by
        rw [Tryz.params7] at ht
        have hm : t ∈ [4, 46] := by simpa using Array.mem_of_getElem? ht
        have hall : ([4, 46].all fun u => !Tryz.prog.wantsStandIn u) = true := by kernel_rfl
        exact (show Tryz.prog.wantsStandIn t = false by simpa using List.all_eq_true.1 hall t hm)⟩)
    (by kernel_rfl)
#print axioms tokensPlay_card
end Go.Proofs.YtneepokiioefgaaGreatDoor
