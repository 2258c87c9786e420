/- Two pools beside each other, and a call on both, walked. -/
import Derived.Test.YtneepokiioefgaaGreatDoorRowsW
import Derived.Deep.RegionHeld3
namespace Go.Proofs.YtneepokiioefgaaGreatDoor.Pools
open Go.RowKit Go.Toks Go.Proofs.YtneepokiioefgaaGreatDoorW.PrintWords Go.Proofs.YtneepokiioefgaaGreatDoorW.PrintLast Go.Proofs.YtneepokiioefgaaGreatDoorW.PrintMore
set_option linter.unusedVariables false
set_option linter.unusedSimpArgs false
/-- both pools, apart, and a block of its own beside them -/
structure Two (w0 w : World) (g1 g2 : Nat) (L1 L2 : List (List Tok)) (bx : Nat) (cs : Array Value) : Prop where
  mk ::
  ex : ∃ ok1 ok2 : Nat → Prop, PoolAt 49 w w0.heap.size ok1 g1 L1 ∧ PoolAt 52 w w0.heap.size ok2 g2 L2 ∧ (∀ k, ok1 k → ¬ ok2 k) ∧ ¬ ok1 bx ∧ ¬ ok2 bx
  box : w.heap[bx]? = some (.cells cs 29 (0, 0))
  below : Below w0.heap.size w0 w
theorem Two.first {w0 w : World} {g1 g2 bx : Nat} {L1 L2 L' : List (List Tok)} {cs : Array Value} {f : Nat} {args : Array Value} {R : Value} (h : Two w0 w g1 g2 L1 L2 bx cs)
    (hc : ∀ ok, PoolAt 49 w w0.heap.size ok g1 L1 → Below w0.heap.size w0 w → Calls Tryz.prog f args w fun e w' => e = .returned R ∧ PoolAt 49 w' w0.heap.size (fun k => ok k ∨ w.heap.size ≤ k) g1 L' ∧ Below w0.heap.size w0 w' ∧ Kept w w' ok) :
    Calls Tryz.prog f args w fun e w' => e = .returned R ∧ Two w0 w' g1 g2 L' L2 bx cs := by
  obtain ⟨⟨ok1, ok2, hp, hq, hd, h1, h2⟩, hb, hbl⟩ := h
  refine (hc ok1 hp hbl).mono ?_
  rintro e w' ⟨rfl, hp', hb', hk⟩
  have hlt := blk_lt hb
  exact ⟨rfl, ⟨_, _, hp', hq.kept hk (fun k hk2 hk1 => hd k hk1 hk2), fun k hk1 hk2 => hk1.elim (fun h => hd k h hk2.1) (fun h => by have := hk2.2; omega), fun h => h.elim h1 (fun h => by omega), fun h => h2 h.1⟩, blk_kept hb hk h1, hb'⟩
theorem Two.second {w0 w : World} {g1 g2 bx : Nat} {L1 L2 L' : List (List Tok)} {cs : Array Value} {f : Nat} {args : Array Value} {R : Value} (h : Two w0 w g1 g2 L1 L2 bx cs)
    (hc : ∀ ok, PoolAt 52 w w0.heap.size ok g2 L2 → Below w0.heap.size w0 w → Calls Tryz.prog f args w fun e w' => e = .returned R ∧ PoolAt 52 w' w0.heap.size (fun k => ok k ∨ w.heap.size ≤ k) g2 L' ∧ Below w0.heap.size w0 w' ∧ Kept w w' ok) :
    Calls Tryz.prog f args w fun e w' => e = .returned R ∧ Two w0 w' g1 g2 L1 L' bx cs := by
  obtain ⟨⟨ok1, ok2, hp, hq, hd, h1, h2⟩, hb, hbl⟩ := h
  refine (hc ok2 hq hbl).mono ?_
  rintro e w' ⟨rfl, hq', hb', hk⟩
  have hlt := blk_lt hb
  exact ⟨rfl, ⟨_, _, hp.kept hk (fun k hk1 hk2 => hd k hk1 hk2), hq', fun k hk1 hk2 => hk2.elim (fun h => hd k hk1.1 h) (fun h => by have := hk1.2; omega), fun h => h1 h.1, fun h => h.elim h2 (fun h => by omega)⟩, blk_kept hb hk h2, hb'⟩
theorem Two.step {w0 w w' : World} {g1 g2 bx : Nat} {L1 L2 : List (List Tok)} {cs : Array Value} (h : Two w0 w g1 g2 L1 L2 bx cs) (hb : Below w.heap.size w w') : Two w0 w' g1 g2 L1 L2 bx cs := by
  obtain ⟨⟨ok1, ok2, hp, hq, hd, h1, h2⟩, hbk, hbl⟩ := h
  exact ⟨⟨ok1, ok2, hp.below hb, hq.below hb, hd, h1, h2⟩, blk_below hbk hb, hbl.trans (hb.mono hbl.size)⟩
theorem Two.drew {w0 w : World} {g1 g2 bx : Nat} {L1 L2 : List (List Tok)} {cs : Array Value} (h : Two w0 w g1 g2 L1 L2 bx cs) : Two w0 w.drew g1 g2 L1 L2 bx cs := h.step (below_drew (Below.refl _ _))
theorem Two.cells {w0 w : World} {g1 g2 bx : Nat} {L1 L2 : List (List Tok)} {k d p t a b c : Int} (h : Two w0 w g1 g2 L1 L2 bx #[.int .i64 k, .int .i64 d, .int .i64 p, .int .i64 t, .int .i64 a, .int .i64 b, .int .i64 c]) :
    w.cell? ⟨bx, 0, none⟩ = some (.int .i64 k) ∧ w.cell? ⟨bx, 1, none⟩ = some (.int .i64 d) ∧ w.cell? ⟨bx, 2, none⟩ = some (.int .i64 p) ∧ w.cell? ⟨bx, 3, none⟩ = some (.int .i64 t) ∧ w.cell? ⟨bx, 4, none⟩ = some (.int .i64 a) ∧ w.cell? ⟨bx, 5, none⟩ = some (.int .i64 b) ∧ w.cell? ⟨bx, 6, none⟩ = some (.int .i64 c) := by
  refine ⟨?_, ?_, ?_, ?_, ?_, ?_, ?_⟩ <;> (rw [blk_cell h.box]; rfl)
/-- the two pools alone -/
structure Both (w0 w : World) (g1 g2 : Nat) (L : List (List Tok)) : Prop where
  mk ::
  ex : ∃ ok1 ok2 : Nat → Prop, PoolAt 49 w w0.heap.size ok1 g1 L ∧ PoolAt 52 w w0.heap.size ok2 g2 L ∧ (∀ k, ok1 k → ¬ ok2 k)
  below : Below w0.heap.size w0 w
theorem Two.both {w0 w : World} {g1 g2 bx : Nat} {L : List (List Tok)} {cs : Array Value} (h : Two w0 w g1 g2 L L bx cs) : Both w0 w g1 g2 L := by
  obtain ⟨⟨ok1, ok2, hp, hq, hd, h1, h2⟩, hbk, hbl⟩ := h
  exact ⟨⟨ok1, ok2, hp, hq, hd⟩, hbl⟩
theorem Both.box {w0 w : World} {g1 g2 : Nat} {L : List (List Tok)} (h : Both w0 w g1 g2 L) (cs : Array Value) : Two w0 (w.alloc (.cells cs 29)) g1 g2 L L w.heap.size cs := by
  obtain ⟨⟨ok1, ok2, hp, hq, hd⟩, hbl⟩ := h
  have hk : Kept w (w.alloc (.cells cs 29)) (fun _ => False) := (Kept.refl w _).alloc _
  exact ⟨⟨_, _, hp.kept hk (fun _ _ h => h), hq.kept hk (fun _ _ h => h), fun k h1 h2 => hd k h1.1 h2.1, fun h => by have := h.2; omega, fun h => by have := h.2; omega⟩, blk_new w _, below_alloc hbl _⟩
set_option maxRecDepth 100000 in
set_option maxHeartbeats 8000000 in
theorem does_open (w0 w : World) (g1 g2 : Nat) (L : List (List Tok)) (d p t a b c : Int) (H : Both w0 w g1 g2 L) :
    Calls Tryz.prog 21 #[.pointer (some ⟨g1, 0, none⟩), .pointer (some ⟨g2, 0, none⟩), .agg #[.int .i64 1, .int .i64 d, .int .i64 p, .int .i64 t, .int .i64 a, .int .i64 b, .int .i64 c]] w fun e w' => e = .returned (.bool true) ∧ ∃ L', Both w0 w' g1 g2 L' := by
  have HT0 := Aside0.mk (H.box #[.int .i64 1, .int .i64 d, .int .i64 p, .int .i64 t, .int .i64 a, .int .i64 b, .int .i64 c])
  obtain ⟨q0, q1, q2, q3, q4, q5, q6⟩ := HT0.out.cells
  clear H
  go_enter Tryz.func21, Tryz.ntmps21
  go_wp2_with (first
    | (go_at_call 13; refine (Two.first HT0.out (fun ok hp hb => open_any w0 _ ok g1 L hp hb)).mono ?_; rintro e w1 ⟨rfl, hT⟩; obtain ⟨p0, p1, p2, p3, p4, p5, p6⟩ := hT.cells; have HT1 := Aside0.mk hT; clear hT)
    | (go_at_call 31; refine (Two.second HT1.out (fun ok hp hb => ropen_any w0 _ ok g2 L hp hb)).mono ?_; rintro e w2 ⟨rfl, hT⟩; have HT2 := Aside0.mk hT; clear hT))
  go_ret
  exact ⟨by simp, _, HT2.out.both⟩
set_option maxRecDepth 100000 in
set_option maxHeartbeats 8000000 in
theorem does_emit (w0 w : World) (g1 g2 : Nat) (L : List (List Tok)) (d p t a b c : Int) (H : Both w0 w g1 g2 L) :
    Calls Tryz.prog 21 #[.pointer (some ⟨g1, 0, none⟩), .pointer (some ⟨g2, 0, none⟩), .agg #[.int .i64 2, .int .i64 d, .int .i64 p, .int .i64 t, .int .i64 a, .int .i64 b, .int .i64 c]] w fun e w' => e = .returned (.bool true) ∧ ∃ L', Both w0 w' g1 g2 L' := by
  have HT0 := Aside0.mk (H.box #[.int .i64 2, .int .i64 d, .int .i64 p, .int .i64 t, .int .i64 a, .int .i64 b, .int .i64 c])
  obtain ⟨q0, q1, q2, q3, q4, q5, q6⟩ := HT0.out.cells
  clear H
  go_enter Tryz.func21, Tryz.ntmps21
  go_wp2_with (first
    | (go_at_call 14; refine (Two.first HT0.out (fun ok hp hb => emit_any w0 _ ok g1 L d (a, b, c) hp hb)).mono ?_; rintro e w1 ⟨rfl, hT⟩; obtain ⟨p0, p1, p2, p3, p4, p5, p6⟩ := hT.cells; have HT1 := Aside0.mk hT; clear hT)
    | (go_at_call 32; refine (Two.second HT1.out (fun ok hp hb => remit_any w0 _ ok g2 L d (a, b, c) hp hb)).mono ?_; rintro e w2 ⟨rfl, hT⟩; have HT2 := Aside0.mk hT; clear hT))
  go_ret
  exact ⟨by simp, _, HT2.out.both⟩
set_option maxRecDepth 100000 in
set_option maxHeartbeats 8000000 in
theorem does_patch (w0 w : World) (g1 g2 : Nat) (L : List (List Tok)) (d p t a b c : Int) (H : Both w0 w g1 g2 L) :
    Calls Tryz.prog 21 #[.pointer (some ⟨g1, 0, none⟩), .pointer (some ⟨g2, 0, none⟩), .agg #[.int .i64 3, .int .i64 d, .int .i64 p, .int .i64 t, .int .i64 a, .int .i64 b, .int .i64 c]] w fun e w' => e = .returned (.bool true) ∧ ∃ L', Both w0 w' g1 g2 L' := by
  have HT0 := Aside0.mk (H.box #[.int .i64 3, .int .i64 d, .int .i64 p, .int .i64 t, .int .i64 a, .int .i64 b, .int .i64 c])
  obtain ⟨q0, q1, q2, q3, q4, q5, q6⟩ := HT0.out.cells
  clear H
  go_enter Tryz.func21, Tryz.ntmps21
  go_wp2_with fail
  have HTD := Aside0.mk HT0.out.drew
  go_region_held3 (fun w' => w'.cell? ⟨w.heap.size, 1, none⟩ = some (.int .i64 d) ∧ w'.cell? ⟨w.heap.size, 2, none⟩ = some (.int .i64 p) ∧ w'.cell? ⟨w.heap.size, 3, none⟩ = some (.int .i64 t))
    (first
      | exact ⟨p1, p2, p3⟩
      | exact ⟨q1, q2, q3⟩)
    (first
    | (go_at_call 16; first
        | (refine (Two.first HTD.out (fun ok hp hb => (patch_any w0 _ ok g1 L d p t hp hb).mono (fun e w' h => ⟨h.1, h.2.1.more (fun k h => .inl h), h.2.2⟩))).mono ?_; rintro e w1 ⟨rfl, hT⟩; obtain ⟨p0, p1, p2, p3, p4, p5, p6⟩ := hT.cells; have HT1 := Aside0.mk hT; clear hT)
        | (refine (Two.first HT3.out (fun ok hp hb => (patch_any w0 _ ok g1 L d p t hp hb).mono (fun e w' h => ⟨h.1, h.2.1.more (fun k h => .inl h), h.2.2⟩))).mono ?_; rintro e w2 ⟨rfl, hT⟩; obtain ⟨p0, p1, p2, p3, p4, p5, p6⟩ := hT.cells; have HT2 := Aside0.mk hT; clear hT))
    | (go_at_call 33; first
        | (refine (Two.second HTD.out (fun ok hp hb => (rpatch_any w0 _ ok g2 L d p t hp hb).mono (fun e w' h => ⟨h.1, h.2.1.more (fun k h => .inl h), h.2.2⟩))).mono ?_; rintro e w1 ⟨rfl, hT⟩; obtain ⟨p0, p1, p2, p3, p4, p5, p6⟩ := hT.cells; have HT3 := Aside0.mk hT; clear hT)
        | (refine (Two.second HT1.out (fun ok hp hb => (rpatch_any w0 _ ok g2 L d p t hp hb).mono (fun e w' h => ⟨h.1, h.2.1.more (fun k h => .inl h), h.2.2⟩))).mono ?_; rintro e w2 ⟨rfl, hT⟩; obtain ⟨p0, p1, p2, p3, p4, p5, p6⟩ := hT.cells; have HT2 := Aside0.mk hT; clear hT)))
  all_goals
    go_wp2
    go_ret
    exact ⟨by simp, _, HT2.out.both⟩
set_option maxRecDepth 100000 in
set_option maxHeartbeats 8000000 in
theorem does_cut (w0 w : World) (g1 g2 : Nat) (L : List (List Tok)) (d p t a b c : Int) (H : Both w0 w g1 g2 L) :
    Calls Tryz.prog 21 #[.pointer (some ⟨g1, 0, none⟩), .pointer (some ⟨g2, 0, none⟩), .agg #[.int .i64 5, .int .i64 d, .int .i64 p, .int .i64 t, .int .i64 a, .int .i64 b, .int .i64 c]] w fun e w' => e = .returned (.bool true) ∧ ∃ L', Both w0 w' g1 g2 L' := by
  have HT0 := Aside0.mk (H.box #[.int .i64 5, .int .i64 d, .int .i64 p, .int .i64 t, .int .i64 a, .int .i64 b, .int .i64 c])
  obtain ⟨q0, q1, q2, q3, q4, q5, q6⟩ := HT0.out.cells
  clear H
  go_enter Tryz.func21, Tryz.ntmps21
  go_wp2_with fail
  have HTD := Aside0.mk HT0.out.drew
  go_region_held3 (fun w' => w'.cell? ⟨w.heap.size, 1, none⟩ = some (.int .i64 d) ∧ w'.cell? ⟨w.heap.size, 2, none⟩ = some (.int .i64 p) ∧ w'.cell? ⟨w.heap.size, 3, none⟩ = some (.int .i64 t))
    (first
      | exact ⟨p1, p2, p3⟩
      | exact ⟨q1, q2, q3⟩)
    (first
    | (go_at_call 20; first
        | (refine (Two.first HTD.out (fun ok hp hb => (cut_any w0 _ ok g1 L d hp hb).mono (fun e w' h => ⟨h.1, h.2.1.more (fun k h => .inl h), h.2.2⟩))).mono ?_; rintro e w1 ⟨rfl, hT⟩; obtain ⟨p0, p1, p2, p3, p4, p5, p6⟩ := hT.cells; have HT1 := Aside0.mk hT; clear hT)
        | (refine (Two.first HT3.out (fun ok hp hb => (cut_any w0 _ ok g1 L d hp hb).mono (fun e w' h => ⟨h.1, h.2.1.more (fun k h => .inl h), h.2.2⟩))).mono ?_; rintro e w2 ⟨rfl, hT⟩; obtain ⟨p0, p1, p2, p3, p4, p5, p6⟩ := hT.cells; have HT2 := Aside0.mk hT; clear hT))
    | (go_at_call 35; first
        | (refine (Two.second HTD.out (fun ok hp hb => rcut_any w0 _ ok g2 L d hp hb)).mono ?_; rintro e w1 ⟨rfl, hT⟩; obtain ⟨p0, p1, p2, p3, p4, p5, p6⟩ := hT.cells; have HT3 := Aside0.mk hT; clear hT)
        | (refine (Two.second HT1.out (fun ok hp hb => rcut_any w0 _ ok g2 L d hp hb)).mono ?_; rintro e w2 ⟨rfl, hT⟩; obtain ⟨p0, p1, p2, p3, p4, p5, p6⟩ := hT.cells; have HT2 := Aside0.mk hT; clear hT)))
  all_goals
    go_wp2
    go_ret
    exact ⟨by simp, _, HT2.out.both⟩
set_option maxRecDepth 100000 in
set_option maxHeartbeats 8000000 in
theorem does_at (w0 w : World) (g1 g2 : Nat) (L : List (List Tok)) (d p t a b c : Int) (H : Both w0 w g1 g2 L) :
    Calls Tryz.prog 21 #[.pointer (some ⟨g1, 0, none⟩), .pointer (some ⟨g2, 0, none⟩), .agg #[.int .i64 4, .int .i64 d, .int .i64 p, .int .i64 t, .int .i64 a, .int .i64 b, .int .i64 c]] w fun e w' => e = .returned (.bool true) ∧ ∃ L', Both w0 w' g1 g2 L' := by
  have HT0 := Aside0.mk (H.box #[.int .i64 4, .int .i64 d, .int .i64 p, .int .i64 t, .int .i64 a, .int .i64 b, .int .i64 c])
  obtain ⟨q0, q1, q2, q3, q4, q5, q6⟩ := HT0.out.cells
  clear H
  go_enter Tryz.func21, Tryz.ntmps21
  obtain ⟨⟨ok1, ok2, hp0, hq0, hd0, -, -⟩, -, -⟩ := HT0.out
  have HP0 := Aside0.mk hp0
  have HQ0 := Aside0.mk hq0
  obtain ⟨z, ez⟩ : ∃ z, z = attR L d p := ⟨_, rfl⟩
  obtain ⟨zb, ezb⟩ : ∃ zb, zb = hasT L d p := ⟨_, rfl⟩
  have EZ := Aside0.mk ez
  have EZB := Aside0.mk ezb
  clear hp0 hq0 hd0 ez ezb
  go_wp2_with (first
    | (go_at_call 15; refine (at_any _ _ _ _ L d p HP0.out).mono ?_; rintro e w1 ⟨he, hbl⟩; rw [← EZ.out, ← EZB.out] at he; subst he; have HT1 := Aside0.mk (HT0.out.step hbl); have HQ1 := Aside0.mk (HQ0.out.below (below_alloc hbl (.cells #[.int .i64 z.1, .int .i64 z.2.1, .int .i64 z.2.2] 23))); have p1 := (fun o => pw_alloc_cell (pw_cell_below hbl q1) o); have p2 := (fun o => pw_alloc_cell (pw_cell_below hbl q2) o); clear hbl)
    | (go_at_call 34; refine (rat_any _ _ _ _ L d p HQ1.out).mono ?_; rintro e w2 ⟨he, hbl⟩; rw [← EZ.out, ← EZB.out] at he; subst he; have r0 := (fun o => pw_alloc_cell (pw_cell_below hbl (show (w1.alloc (.cells #[.int .i64 z.1, .int .i64 z.2.1, .int .i64 z.2.2] 23)).cell? ⟨w1.heap.size, 0, none⟩ = some (.int .i64 z.1) by rw [blk_cell (blk_new w1 _)]; rfl)) o); have r1 := (fun o => pw_alloc_cell (pw_cell_below hbl (show (w1.alloc (.cells #[.int .i64 z.1, .int .i64 z.2.1, .int .i64 z.2.2] 23)).cell? ⟨w1.heap.size, 1, none⟩ = some (.int .i64 z.2.1) by rw [blk_cell (blk_new w1 _)]; rfl)) o); have r2 := (fun o => pw_alloc_cell (pw_cell_below hbl (show (w1.alloc (.cells #[.int .i64 z.1, .int .i64 z.2.1, .int .i64 z.2.2] 23)).cell? ⟨w1.heap.size, 2, none⟩ = some (.int .i64 z.2.2) by rw [blk_cell (blk_new w1 _)]; rfl)) o); have HT2 := Aside0.mk ((HT1.out.step (below_alloc (Below.refl _ _) _)).step hbl); clear hbl))
  go_ret
  exact ⟨by simp, _, (HT2.out.step (below_alloc (Below.refl _ _) _)).both⟩
set_option maxRecDepth 100000 in
set_option maxHeartbeats 4000000 in
theorem does_other (w0 w : World) (g1 g2 : Nat) (L : List (List Tok)) (k d p t a b c : Int) (H : Both w0 w g1 g2 L) (h1 : ¬ k = 1) (h2 : ¬ k = 2) (h3 : ¬ k = 3) (h4 : ¬ k = 4) (h5 : ¬ k = 5) :
    Calls Tryz.prog 21 #[.pointer (some ⟨g1, 0, none⟩), .pointer (some ⟨g2, 0, none⟩), .agg #[.int .i64 k, .int .i64 d, .int .i64 p, .int .i64 t, .int .i64 a, .int .i64 b, .int .i64 c]] w fun e w' => e = .returned (.bool true) ∧ ∃ L', Both w0 w' g1 g2 L' := by
  have HT0 := Aside0.mk (H.box #[.int .i64 k, .int .i64 d, .int .i64 p, .int .i64 t, .int .i64 a, .int .i64 b, .int .i64 c])
  obtain ⟨q0, q1, q2, q3, q4, q5, q6⟩ := HT0.out.cells
  have e1 : (k == 1) = false := by simpa using h1
  have e2 : (k == 2) = false := by simpa using h2
  have e3 : (k == 3) = false := by simpa using h3
  have e4 : (k == 4) = false := by simpa using h4
  have e5 : (k == 5) = false := by simpa using h5
  clear H
  go_enter Tryz.func21, Tryz.ntmps21
  go_wp2
  go_ret
  exact ⟨rfl, _, HT0.out.both⟩
theorem does_any (w0 w : World) (g1 g2 : Nat) (L : List (List Tok)) (k d p t a b c : Int) (H : Both w0 w g1 g2 L) :
    Calls Tryz.prog 21 #[.pointer (some ⟨g1, 0, none⟩), .pointer (some ⟨g2, 0, none⟩), .agg #[.int .i64 k, .int .i64 d, .int .i64 p, .int .i64 t, .int .i64 a, .int .i64 b, .int .i64 c]] w fun e w' => e = .returned (.bool true) ∧ ∃ L', Both w0 w' g1 g2 L' := by
  by_cases h1 : k = 1
  · subst h1; exact does_open w0 w g1 g2 L d p t a b c H
  by_cases h2 : k = 2
  · subst h2; exact does_emit w0 w g1 g2 L d p t a b c H
  by_cases h3 : k = 3
  · subst h3; exact does_patch w0 w g1 g2 L d p t a b c H
  by_cases h4 : k = 4
  · subst h4; exact does_at w0 w g1 g2 L d p t a b c H
  by_cases h5 : k = 5
  · subst h5; exact does_cut w0 w g1 g2 L d p t a b c H
  · exact does_other w0 w g1 g2 L k d p t a b c H h1 h2 h3 h4 h5
end Go.Proofs.YtneepokiioefgaaGreatDoor.Pools
