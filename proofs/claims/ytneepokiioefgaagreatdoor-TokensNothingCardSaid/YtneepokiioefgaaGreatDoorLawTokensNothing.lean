/- The law TokensNothing answers true at every input its row admits: the row, and its tied card. -/
import Derived.Test.YtneepokiioefgaaGreatDoorRows
import Derived.Test.YtneepokiioefgaaGreatDoorNothing
import Derived.WalkKit
import Derived.ProofKit
import Derived.OpenShut
import Derived.ShutString
import Derived.ChangeOld
import Derived.Below
import Derived.SizedLaws
import Derived.Lay
import Derived.LaidOnce
import Derived.SevenTiedAt
import Derived.Carry
import Derived.LaidSub
import Derived.Lib.LaidTab
import Derived.Lib.AppendIntMem
import Derived.Test.YtneepokiioefgaaGreatDoorTie
import Derived.Test.YtneepokiioefgaaGreatDoorCards
namespace Go.Proofs.YtneepokiioefgaaGreatDoor.tokensNothing
open Go.ChangeShapes Go.WideShapes Go.ChangeAt Go.RowKit Go.Toks Go.Proofs.YtneepokiioefgaaGreatDoorW.PrintWords
open Go.ChangeMaps (open_string shut_string)
set_option linter.unusedVariables false
set_option linter.unusedSimpArgs false
theorem own : ownKnob Tryz.prog.godebug = none := by kernel_rfl
theorem laidOut : laidOutB Tryz.prog = true := by kernel_rfl
theorem powers {W : World} (h : laidMetH Tryz.prog Rows.tokensNothingRow.laid W) : Pools.Pow W := by
  have h1 := h.filter (fun x => x.1 == "internal/strconv.uint64pow10")
  rw [show Rows.tokensNothingRow.laid.filter (fun x => x.1 == "internal/strconv.uint64pow10") = [("internal/strconv.uint64pow10", Lib.tabData .u64 Lib.pow10Tab)] by kernel_rfl] at h1
  rw [MakeChecks.laidMetH_plain _ _ _ (by kernel_rfl)] at h1
  exact Lib.tabBelow_of_tabIs (Lib.tabIs_of_head (g := 0) (by kernel_rfl) (by kernel_rfl) Tryz.underlying136 Tryz.underlying60 (by kernel_rfl) (by kernel_rfl) h1)
set_option maxRecDepth 100000 in
/-- a Step by value: seven numbers -/
theorem open_step {H : Type} {enc : TypeId × Value → H} {W : World} {base : Nat} {spare : Nat → Bool} {held : Bool} {r : Reach} {b0 : Nat} {v : Value} {d : DataW H} {p : List MemPlace} (hv : Value.okWide Tryz.prog W r b0 29 v) (h : DataW.Trod enc Tryz.prog W base spare held 29 v d p) :
    ∃ k d p t a b c : Int, v = .agg #[.int .i64 k, .int .i64 d, .int .i64 p, .int .i64 t, .int .i64 a, .int .i64 b, .int .i64 c] := by
  obtain ⟨cs, rfl, hsz⟩ := okWide_struct Tryz.underlying29 hv
  obtain ⟨l⟩ := cs
  match l, hsz.trans (show Tryz.prog.cellsOf 29 = 7 by kernel_rfl) with
  | [c0, c1, c2, c3, c4, c5, c6], _ =>
    obtain ⟨fuel, hf⟩ := h
    obtain ⟨xs, n, _, hx, _, hlen, hg⟩ := DataW.trod_struct Tryz.underlying29 hf
    have k3 : Tryz.prog.cellsOf 3 = 1 := by kernel_rfl
    have k23 : Tryz.prog.cellsOf 23 = 3 := by kernel_rfl
    match xs, hlen with
    | [y0, y1, y2, y3, y4], _ =>
      have g0 : DataW.trod enc Tryz.prog W base spare held n 3 [c0] = some y0 := by simpa [Value.cells, k3] using hg 0 _ rfl
      have g1 : DataW.trod enc Tryz.prog W base spare held n 3 [c1] = some y1 := by simpa [Value.cells, k3] using hg 1 _ rfl
      have g2 : DataW.trod enc Tryz.prog W base spare held n 3 [c2] = some y2 := by simpa [Value.cells, k3] using hg 2 _ rfl
      have g3 : DataW.trod enc Tryz.prog W base spare held n 3 [c3] = some y3 := by simpa [Value.cells, k3] using hg 3 _ rfl
      have g4 : DataW.trod enc Tryz.prog W base spare held n 23 [c4, c5, c6] = some y4 := by simpa [Value.cells, k23] using hg 4 _ rfl
      obtain ⟨n0, e0, -, -⟩ := DataW.trod_int Tryz.underlying3 g0
      obtain ⟨n1, e1, -, -⟩ := DataW.trod_int Tryz.underlying3 g1
      obtain ⟨n2, e2, -, -⟩ := DataW.trod_int Tryz.underlying3 g2
      obtain ⟨n3, e3, -, -⟩ := DataW.trod_int Tryz.underlying3 g3
      obtain ⟨zs, m, _, hz, _, hzl, hgz⟩ := DataW.trod_struct Tryz.underlying23 g4
      match zs, hzl with
      | [z0, z1, z2], _ =>
        have q0 : DataW.trod enc Tryz.prog W base spare held m 3 [c4] = some z0 := by simpa [k3] using hgz 0 _ rfl
        have q1 : DataW.trod enc Tryz.prog W base spare held m 3 [c5] = some z1 := by simpa [k3] using hgz 1 _ rfl
        have q2 : DataW.trod enc Tryz.prog W base spare held m 3 [c6] = some z2 := by simpa [k3] using hgz 2 _ rfl
        obtain ⟨n4, e4, -, -⟩ := DataW.trod_int Tryz.underlying3 q0
        obtain ⟨n5, e5, -, -⟩ := DataW.trod_int Tryz.underlying3 q1
        obtain ⟨n6, e6, -, -⟩ := DataW.trod_int Tryz.underlying3 q2
        simp only [List.cons.injEq, and_true] at e0 e1 e2 e3 e4 e5 e6
        subst e0 e1 e2 e3 e4 e5 e6
        exact ⟨n0, n1, n2, n3, n4, n5, n6, rfl⟩
set_option maxRecDepth 100000 in
theorem lifted (os : Os) (started : os.Started) (H : Type) (enc : TypeId × Value → H) :
    ReturnsInHanded {} Tryz.checked os 4 .any (fun w args => (Rows.tokensNothingSpec.pre enc Tryz.prog Tryz.f4 Rows.tokensNothingRow.domain false w args ∧ laidMetH Tryz.prog Rows.tokensNothingRow.laid w) ∧ sizedMet enc Tryz.prog Tryz.f4 (OpenSpec.ofChange Rows.tokensNothingSpec) false w args) (Rows.tokensNothingSpec.post enc Tryz.prog Tryz.f4 false true false false) := by
  refine returnsInHanded_of_change_and (C := Tryz.checked) (X := fun w _ => laidMetH Tryz.prog Rows.tokensNothingRow.laid w) (fun _ _ _ hh h => h.of_heap hh) own started (by kernel_rfl) Tryz.func4
    (ChangeSpec.witness_shaped (enc := enc) (C := Tryz.checked) (os := os) (X := fun w _ => laidMetH Tryz.prog Rows.tokensNothingRow.laid w) false (World.laidAll Tryz.prog os Rows.tokensNothingRow.laid) #[.agg #[.int .i64 0, .int .i64 0, .int .i64 0, .int .i64 0, .int .i64 0, .int .i64 0, .int .i64 0]] 8 (World.laidAll_os _ _ _)
      (World.shaped_of_ZipB (by kernel_rfl) (by kernel_rfl)) (by kernel_rfl) (by kernel_rfl) (by kernel_rfl)
      (by rw [MakeChecks.laidMetH_plain _ _ _ (by kernel_rfl)]; exact laidMet_laidAll _ (by kernel_rfl) (by kernel_rfl))) ?_
  intro W base args ds gs before hval0 hW hcnd hsz0 hlaid _
  have hsz : (DataW.weightsEach Tryz.prog (Tryz.f4.params.toList ++ Rows.tokensNothingSpec.plain.varTypes Tryz.prog) (ds ++ gs)).all (· ≤ reachBytes) = true := hsz0
  have hval : ∀ (j : Nat) t v, Tryz.f4.params[j]? = some t → args[j]? = some v → Value.okWide Tryz.prog W .any base t v := hval0
  have HPOW := powers hlaid
  have hW' := hW
  obtain ⟨p, q, hA0, hV, rfl, hfz, hnd⟩ := hW
  have hA : DataW.TrodAll enc Tryz.prog W 0 (fun _ => true) true Tryz.f4.params.toList args.toList ds p := hA0
  rw [Tryz.params4] at hA hval hsz
  obtain ⟨v0, vs0, d0, ds0, p0, q0, hargs, rfl, rfl, h0, r0⟩ := trodAll_cons hA
  obtain ⟨rfl, rfl, rfl⟩ := trodAll_nil r0
  obtain rfl : args = #[v0] := by cases args; simp_all
  obtain ⟨rfl, rfl⟩ := trodVars_none hV
  have k0 := h0
  have lt0 : ∀ x ∈ p0, x.block < W.heap.size := by obtain ⟨m, hm⟩ := k0; exact DataW.trod_lt m _ _ _ hm
  obtain ⟨a0, a1, a2, a3, a4, a5, a6, rfl⟩ := open_step (hval 0 29 v0 rfl rfl) h0
  clear hA0 hval0 hsz0 hsz
  refine (Pools.nothing_any a0 a1 a2 a3 a4 a5 a6 W HPOW).mono fun e W' ⟨he, bel⟩ => ?_
  subst he
  exact ⟨_, rfl, _, _, _, [], _, [], hW', trodAll_mk1 (shut_bool Tryz.underlying4 _), (trodAll_cons_mk (Below.trod laidOut (by kernel_rfl) (of_decide_eq_true (by kernel_rfl)) k0 bel lt0) trodAll_mk0), rfl, bel.frame _, fun h => by cases h⟩
theorem over : Rows.tokensNothingRow.holds Tryz.pinned (OpenSpec.ofChange Rows.tokensNothingSpec) :=
  OpenClaim.holds_of_wide 4 Tryz.f4 rfl rfl rfl rfl rfl rfl rfl ⟨rfl, rfl, rfl, rfl, rfl⟩ rfl rfl rfl rfl rfl (by kernel_rfl) Tryz.func4 (by kernel_rfl)
    (of_decide_eq_true (by kernel_rfl)) (by unfold Func.isWrapper; first | (rw [if_pos (by decide +kernel)]; kernel_rfl) | (rw [if_neg (by decide +kernel)]; exact ⟨rfl, rfl⟩))
    (fun os started H enc _ => lifted os started H enc)
theorem proved : Rows.TokensNothingSaid := over
#print axioms proved
end Go.Proofs.YtneepokiioefgaaGreatDoor.tokensNothing
namespace Go.Proofs.YtneepokiioefgaaGreatDoor
/-- The tied card of the row. -/
theorem tokensNothing_card : Rows.TokensNothingCardSaid :=
  Claim7.holds_tied_plain_at .later [] [.data, .data, .data, .data, .pinned] true (true, "64d2bffa6d20fc99deb5ea35321e912089093c95a3b9f0239533feb4298cc081") false tokensNothing.proved (fun _ h => by cases h) (by kernel_rfl) (fun _ h => by cases h) tokensNothing_row_tie rfl ⟨rfl, rfl⟩ (by kernel_rfl) rfl
    (fun f fn hf hfn => by
      obtain rfl : f = 4 := Option.some.inj ((show Tryz.prog.funcNamed "bobbin/bobbinlaw15.TokensNothing" = some 4 by kernel_rfl).symm.trans hf) |>.symm
      obtain rfl : fn = Tryz.f4 := (Option.some.inj (Tryz.func4.symm.trans hfn)).symm
      exact ⟨by kernel_rfl, fun j t ht => by
        rw [Tryz.params4] at ht
        have hm : t ∈ [29] := by simpa using Array.mem_of_getElem? ht
        have hall : ([29].all fun u => !Tryz.prog.wantsStandIn u) = true := by kernel_rfl
        exact (show Tryz.prog.wantsStandIn t = false by simpa using List.all_eq_true.1 hall t hm)⟩)
    (by kernel_rfl)
#print axioms tokensNothing_card
end Go.Proofs.YtneepokiioefgaaGreatDoor
