/- Pools of definitions: Emit in all its ways. -/
import Derived.Test.YtneepokiioefgaaGreatDoorEmitR
namespace Go.Proofs.YtneepokiioefgaaGreatDoor.Pools
open Go.RowKit Go.Toks Go.Proofs.YtneepokiioefgaaGreatDoorW.PrintWords Go.Proofs.YtneepokiioefgaaGreatDoorW.PrintLast Go.Proofs.YtneepokiioefgaaGreatDoorW.PrintMore
set_option linter.unusedVariables false
set_option linter.unusedSimpArgs false
theorem PoolAt.alloc {T : Nat} {w : World} {base : Nat} {ok ok' : Nat → Prop} {g : Nat} {L : List (List Tok)} (h : PoolAt T w base ok g L) (hk : ∀ k, ok k → ok' k) (o : Obj) : PoolAt T (w.alloc o) base ok' g L := by
  obtain ⟨hf, h1, h2, A, c, hb, hS⟩ := h
  exact ⟨hf, hk _ h1, h2, A, c, blk_alloc hb o, Kd.S_mono (Kd.S_alloc hS o) (fun k h => ⟨hk k h.1, h.2⟩)⟩

set_option maxRecDepth 100000 in
set_option maxHeartbeats 1000000 in
theorem emit_any (w0 w : World) (ok : Nat → Prop) (g : Nat) (L : List (List Tok)) (d : Int) (t : Tok) (H : PoolAt 49 w w0.heap.size ok g L) (HB : Below w0.heap.size w0 w) :
    Calls Tryz.prog 14 #[.pointer (some ⟨g, 0, none⟩), .int .i64 d, .agg #[.int .i64 t.1, .int .i64 t.2.1, .int .i64 t.2.2]] w fun e w' => e = .returned (.tuple #[.int .i64 (emtR L d).1, .int .i64 (emtR L d).2]) ∧ PoolAt 49 w' w0.heap.size (fun k => ok k ∨ w.heap.size ≤ k) g (emtL L d t) ∧ Below w0.heap.size w0 w' ∧ Kept w w' ok := by
  by_cases hd : isD L d = true
  · by_cases hn : 100000 ≤ cnt L
    · have HI : ∀ o, Calls Tryz.prog 30 #[.pointer (some ⟨g, 0, none⟩), .int .i64 d] (w.alloc o) fun e w'' => e = .returned (.bool true) ∧ w.alloc o = w'' := fun o => by
        have h_ := is_any 49 _ _ _ g L d (H.alloc (fun _ h => h) o)
        rw [hd] at h_
        exact h_
      have HE := Aside0.mk (show emtR L d = (0, 5) by unfold emtR; rw [if_pos hd, if_pos hn])
      have HL := Aside0.mk (show emtL L d t = L by unfold emtL; rw [if_pos hd, if_pos hn])
      have HP := Aside0.mk (fun o => H.alloc (ok' := fun k => ok k ∨ w.heap.size ≤ k) (fun k h => .inl h) o)
      have HB' := Aside0.mk HB
      obtain ⟨hf, -, -, A, c, hb, -⟩ := H
      obtain ⟨n, en⟩ : ∃ n : Int, n = (cnt L : Int) := ⟨_, rfl⟩
      have hcb : ∀ o, (w.alloc o).cell? ⟨g, 1, none⟩ = some (.int .i64 n) := fun o => by rw [blk_cell (blk_alloc hb o), en]; rfl
      have hn1 : 100000 ≤ n := by omega
      clear hb hf HB hn en hd
      go_enter Tryz.func14, Tryz.ntmps14
      go_wp2_with (go_at_call 30; refine (HI _).mono ?_; rintro e w' ⟨rfl, rfl⟩)
      go_ret2
      exact ⟨by rw [HE.out]; rfl, by rw [HL.out]; exact HP.out _, below_alloc HB'.out _, (Kept.refl w ok).alloc _⟩
    · exact emit_one w0 w ok g L d t H HB hd (by omega)
  · have hd := Bool.eq_false_iff.mpr hd
    have HI : ∀ o, Calls Tryz.prog 30 #[.pointer (some ⟨g, 0, none⟩), .int .i64 d] (w.alloc o) fun e w'' => e = .returned (.bool false) ∧ w.alloc o = w'' := fun o => by
      have h_ := is_any 49 _ _ _ g L d (H.alloc (fun _ h => h) o)
      rw [hd] at h_
      exact h_
    have HE := Aside0.mk (show emtR L d = (0, 1) by unfold emtR; rw [hd]; rfl)
    have HL := Aside0.mk (show emtL L d t = L by unfold emtL; rw [hd]; rfl)
    have HP := Aside0.mk (fun o => H.alloc (ok' := fun k => ok k ∨ w.heap.size ≤ k) (fun k h => .inl h) o)
    have HB' := Aside0.mk HB
    clear H HB hd
    go_enter Tryz.func14, Tryz.ntmps14
    go_wp2_with (go_at_call 30; refine (HI _).mono ?_; rintro e w' ⟨rfl, rfl⟩)
    go_ret2
    exact ⟨by rw [HE.out]; rfl, by rw [HL.out]; exact HP.out _, below_alloc HB'.out _, (Kept.refl w ok).alloc _⟩

set_option maxRecDepth 100000 in
set_option maxHeartbeats 1000000 in
theorem remit_any (w0 w : World) (ok : Nat → Prop) (g : Nat) (L : List (List Tok)) (d : Int) (t : Tok) (H : PoolAt 52 w w0.heap.size ok g L) (HB : Below w0.heap.size w0 w) :
    Calls Tryz.prog 32 #[.pointer (some ⟨g, 0, none⟩), .int .i64 d, .agg #[.int .i64 t.1, .int .i64 t.2.1, .int .i64 t.2.2]] w fun e w' => e = .returned (.tuple #[.int .i64 (emtR L d).1, .int .i64 (emtR L d).2]) ∧ PoolAt 52 w' w0.heap.size (fun k => ok k ∨ w.heap.size ≤ k) g (emtL L d t) ∧ Below w0.heap.size w0 w' ∧ Kept w w' ok := by
  by_cases hd : isD L d = true
  · by_cases hn : 100000 ≤ cnt L
    · have HI : ∀ o, Calls Tryz.prog 48 #[.pointer (some ⟨g, 0, none⟩), .int .i64 d] (w.alloc o) fun e w'' => e = .returned (.bool true) ∧ w.alloc o = w'' := fun o => by
        have h_ := ris_any 52 _ _ _ g L d (H.alloc (fun _ h => h) o)
        rw [hd] at h_
        exact h_
      have HE := Aside0.mk (show emtR L d = (0, 5) by unfold emtR; rw [if_pos hd, if_pos hn])
      have HL := Aside0.mk (show emtL L d t = L by unfold emtL; rw [if_pos hd, if_pos hn])
      have HP := Aside0.mk (fun o => H.alloc (ok' := fun k => ok k ∨ w.heap.size ≤ k) (fun k h => .inl h) o)
      have HB' := Aside0.mk HB
      obtain ⟨hf, -, -, A, c, hb, -⟩ := H
      obtain ⟨n, en⟩ : ∃ n : Int, n = (cnt L : Int) := ⟨_, rfl⟩
      have hcb : ∀ o, (w.alloc o).cell? ⟨g, 1, none⟩ = some (.int .i64 n) := fun o => by rw [blk_cell (blk_alloc hb o), en]; rfl
      have hn1 : 100000 ≤ n := by omega
      clear hb hf HB hn en hd
      go_enter Tryz.func32, Tryz.ntmps32
      go_wp2_with (go_at_call 48; refine (HI _).mono ?_; rintro e w' ⟨rfl, rfl⟩)
      go_ret2
      exact ⟨by rw [HE.out]; rfl, by rw [HL.out]; exact HP.out _, below_alloc HB'.out _, (Kept.refl w ok).alloc _⟩
    · exact remit_one w0 w ok g L d t H HB hd (by omega)
  · have hd := Bool.eq_false_iff.mpr hd
    have HI : ∀ o, Calls Tryz.prog 48 #[.pointer (some ⟨g, 0, none⟩), .int .i64 d] (w.alloc o) fun e w'' => e = .returned (.bool false) ∧ w.alloc o = w'' := fun o => by
      have h_ := ris_any 52 _ _ _ g L d (H.alloc (fun _ h => h) o)
      rw [hd] at h_
      exact h_
    have HE := Aside0.mk (show emtR L d = (0, 1) by unfold emtR; rw [hd]; rfl)
    have HL := Aside0.mk (show emtL L d t = L by unfold emtL; rw [hd]; rfl)
    have HP := Aside0.mk (fun o => H.alloc (ok' := fun k => ok k ∨ w.heap.size ≤ k) (fun k h => .inl h) o)
    have HB' := Aside0.mk HB
    clear H HB hd
    go_enter Tryz.func32, Tryz.ntmps32
    go_wp2_with (go_at_call 48; refine (HI _).mono ?_; rintro e w' ⟨rfl, rfl⟩)
    go_ret2
    exact ⟨by rw [HE.out]; rfl, by rw [HL.out]; exact HP.out _, below_alloc HB'.out _, (Kept.refl w ok).alloc _⟩
end Go.Proofs.YtneepokiioefgaaGreatDoor.Pools
