/- Pools of definitions: Open, of the program and of the reference, walked. -/
import Derived.Test.YtneepokiioefgaaGreatDoorPool
namespace Go.Proofs.YtneepokiioefgaaGreatDoor.Pools
open Go.RowKit Go.Toks Go.Proofs.YtneepokiioefgaaGreatDoorW.PrintWords Go.Proofs.YtneepokiioefgaaGreatDoorW.PrintLast Go.Proofs.YtneepokiioefgaaGreatDoorW.PrintMore
set_option linter.unusedVariables false
set_option linter.unusedSimpArgs false
theorem PoolAt.put0 {T : Nat} {w : World} {base : Nat} {ok : Nat → Prop} {g : Nat} {L : List (List Tok)} {x : Value} {n : Nat} {A : Option Addr} {c : Nat} (hf : Fit L) (hok : ok g) (hlow : base ≤ g) (hn : n = cnt L)
    (hb : w.heap[g]? = some (.cells #[x, .int .i64 n] T (0, 0))) (hS : Kd.S rk 63 w base (fun k => ok k ∧ k ≠ g) (.slice A L.length c) L) : PoolAt T (w.setCell ⟨g, 0, none⟩ (.slice A L.length c)) base ok g L :=
  ⟨hf, hok, hlow, A, c, by rw [blk_set hb]; subst hn; rfl, Kd.S_far hS (fun _ hk => hk.2) _⟩
theorem PoolAt.put1 {T : Nat} {w : World} {base : Nat} {ok : Nat → Prop} {g : Nat} {L : List (List Tok)} {n : Value} {A : Option Addr} {c : Nat} (hf : Fit L) (hok : ok g) (hlow : base ≤ g)
    (hb : w.heap[g]? = some (.cells #[.slice A L.length c, n] T (0, 0))) (hS : Kd.S rk 63 w base (fun k => ok k ∧ k ≠ g) (.slice A L.length c) L) : PoolAt T (w.setCell ⟨g, 1, none⟩ (.int .i64 (cnt L))) base ok g L :=
  ⟨hf, hok, hlow, A, c, by rw [blk_set hb]; rfl, Kd.S_far hS (fun _ hk => hk.2) _⟩
theorem PoolAt.more {T : Nat} {w : World} {base : Nat} {ok ok' : Nat → Prop} {g : Nat} {L : List (List Tok)} (h : PoolAt T w base ok g L) (hk : ∀ k, ok k → ok' k) : PoolAt T w base ok' g L := by
  obtain ⟨hf, h1, h2, A, c, hb, hS⟩ := h
  exact ⟨hf, hk _ h1, h2, A, c, hb, Kd.S_mono hS (fun k h => ⟨hk k h.1, h.2⟩)⟩
theorem PoolAt.lt {T : Nat} {w : World} {base : Nat} {ok : Nat → Prop} {g : Nat} {L : List (List Tok)} (h : PoolAt T w base ok g L) : g < w.heap.size := by
  obtain ⟨hf, h1, h2, A, c, hb, hS⟩ := h
  exact blk_lt hb
/-- another pool's call -/
theorem PoolAt.kept {T : Nat} {w w' : World} {base : Nat} {ok S : Nat → Prop} {g : Nat} {L : List (List Tok)} (h : PoolAt T w base ok g L) (hk : Kept w w' S) (hne : ∀ k, ok k → ¬ S k) : PoolAt T w' base (fun k => ok k ∧ k < w.heap.size) g L := by
  obtain ⟨hf, h1, h2, A, c, hb, hS⟩ := h
  refine ⟨hf, ⟨h1, blk_lt hb⟩, h2, A, c, blk_kept hb hk (hne g h1), ?_⟩
  exact Kd.S_mono (Kd.S_kept (Kd.S_bound hS) hk (fun k h => hne k h.1.1)) (fun k h => ⟨⟨h.1.1, h.2.2.1⟩, h.1.2⟩)

set_option maxHeartbeats 1000000 in
theorem open_any (w0 w : World) (ok : Nat → Prop) (g : Nat) (L : List (List Tok)) (H : PoolAt 49 w w0.heap.size ok g L) (HB : Below w0.heap.size w0 w) :
    Calls Tryz.prog 13 #[.pointer (some ⟨g, 0, none⟩)] w fun e w' => e = .returned (.tuple #[.int .i64 (opnR L).1, .int .i64 (opnR L).2]) ∧ PoolAt 49 w' w0.heap.size (fun k => ok k ∨ w.heap.size ≤ k) g (opnL L) ∧ Below w0.heap.size w0 w' ∧ Kept w w' ok := by
  by_cases hl : 20000 ≤ L.length
  · have HE := Aside0.mk (show opnR L = (0, 5) by unfold opnR; rw [if_pos hl])
    have HP := Aside0.mk (show PoolAt 49 w w0.heap.size (fun k => ok k ∨ w.heap.size ≤ k) g (opnL L) by unfold opnL; rw [if_pos hl]; exact H.more (fun k h => .inl h))
    have HB' := Aside0.mk HB
    obtain ⟨hf, -, -, A, c, hb, -⟩ := H
    have hc0 : w.cell? ⟨g, 0, none⟩ = some (.slice A L.length c) := by rw [blk_cell hb]; rfl
    have hl' : (20000 : Int) ≤ (L.length : Int) := by omega
    clear hb hf HB
    go_enter Tryz.func13, Tryz.ntmps13
    go_wp2
    go_ret2
    exact ⟨by rw [HE.out]; rfl, HP.out, HB'.out, Kept.refl _ _⟩
  · have HE := Aside0.mk (show opnR L = ((L.length : Int) + 1, 0) by unfold opnR; rw [if_neg hl])
    have HL := Aside0.mk (show opnL L = L ++ [[]] by unfold opnL; rw [if_neg hl])
    have HB' := Aside0.mk HB
    have hlt := Aside0.mk H.lt
    have HF := Aside0.mk (fit_opn H.fit)
    obtain ⟨hf, hok, hlow, A, c, hb, hS⟩ := H
    have hc0 : w.cell? ⟨g, 0, none⟩ = some (.slice A L.length c) := by rw [blk_cell hb]; rfl
    have hl' : (L.length : Int) < 20000 := by omega
    have hl2 : ¬ (20000 : Int) ≤ (L.length : Int) := by omega
    have hS' := Aside0.mk hS
    have hb' := Aside0.mk hb
    have hok' := Aside0.mk hok
    have hlow' := Aside0.mk hlow
    have hl3 := Aside0.mk hl'
    clear hb hf HB hS hl hok hlow
    go_enter Tryz.func13, Tryz.ntmps13
    go_wp2_with ((with_reducible refine gate_builtin (b := .append) (xs := #[.tmp 18, .tmp 19]) rfl ?_); at_builtin; refine Kd.S_append rk (w0 := w0) w0.heap.size rfl (.tmp 18) (.tmp 19) 47 63 (.slice none 0 0) 24 rfl Tryz.underlying47 info63 rfl (by decide) (by omega) (.slice A L.length c) L [] [.slice none 0 0] (fun k => (ok k ∨ w.heap.size ≤ k) ∧ k ≠ g) (fun _ => False) rfl rfl ⟨_, rfl, Kd.R_nil _ _ _ _ _⟩ (fun _ h => h.elim) ?aF ?aO HB'.out HB'.out.size ?aL ?_; (case aF => exact fun k hk => ⟨.inr hk, by have := hlt.out; omega⟩); (case aO => exact Kd.S_mono hS'.out (fun k hk => ⟨⟨.inl hk.1, hk.2⟩, fun h => h⟩)); (case aL => have := hl3.out; omega); intro v1 w1 ho hbel hg hat; obtain ⟨A1, c1, rfl⟩ := Kd.S_slice ho; have hb1 := blk_grown hb'.out hg (Kd.S_away hS'.out (fun _ hk => hk.2)); have hcell1 : w1.cell? ⟨g, 0, none⟩ = some (.slice A L.length c) := (by rw [blk_cell hb1]; rfl); have hfr1 := blk_frozen hb1 0; have n0_ := Aside0.mk ho; have n1_ := Aside0.mk hbel; have n2_ := Aside0.mk hb1; have n3_ := Aside0.mk (Kept.of_grown (S := ok) hg (Kept.refl w _) (fun k e_ => .inl (hS'.out.choose_spec.1 k e_).1)); clear ho hbel hg hat hb1)
    go_ret2
    exact ⟨by rw [HE.out]; rfl, by rw [HL.out] at HF ⊢; have h_ := PoolAt.put0 HF.out (.inl hok'.out) hlow'.out (by rw [cnt_append]; simp [cnt]) n2_.out n0_.out; rw [List.length_append, List.length_singleton] at h_; exact h_, below_set n1_.out hlow'.out, n3_.out.setCell (.inl hok'.out) _⟩

set_option maxHeartbeats 1000000 in
theorem ropen_any (w0 w : World) (ok : Nat → Prop) (g : Nat) (L : List (List Tok)) (H : PoolAt 52 w w0.heap.size ok g L) (HB : Below w0.heap.size w0 w) :
    Calls Tryz.prog 31 #[.pointer (some ⟨g, 0, none⟩)] w fun e w' => e = .returned (.tuple #[.int .i64 (opnR L).1, .int .i64 (opnR L).2]) ∧ PoolAt 52 w' w0.heap.size (fun k => ok k ∨ w.heap.size ≤ k) g (opnL L) ∧ Below w0.heap.size w0 w' ∧ Kept w w' ok := by
  by_cases hl : 20000 ≤ L.length
  · have HE := Aside0.mk (show opnR L = (0, 5) by unfold opnR; rw [if_pos hl])
    have HP := Aside0.mk (show PoolAt 52 w w0.heap.size (fun k => ok k ∨ w.heap.size ≤ k) g (opnL L) by unfold opnL; rw [if_pos hl]; exact H.more (fun k h => .inl h))
    have HB' := Aside0.mk HB
    obtain ⟨hf, -, -, A, c, hb, -⟩ := H
    have hc0 : w.cell? ⟨g, 0, none⟩ = some (.slice A L.length c) := by rw [blk_cell hb]; rfl
    have hl' : (20000 : Int) ≤ (L.length : Int) := by omega
    clear hb hf HB
    go_enter Tryz.func31, Tryz.ntmps31
    go_wp2
    go_ret2
    exact ⟨by rw [HE.out]; rfl, HP.out, HB'.out, Kept.refl _ _⟩
  · have HE := Aside0.mk (show opnR L = ((L.length : Int) + 1, 0) by unfold opnR; rw [if_neg hl])
    have HL := Aside0.mk (show opnL L = L ++ [[]] by unfold opnL; rw [if_neg hl])
    have HB' := Aside0.mk HB
    have hlt := Aside0.mk H.lt
    have HF := Aside0.mk (fit_opn H.fit)
    obtain ⟨hf, hok, hlow, A, c, hb, hS⟩ := H
    have hc0 : w.cell? ⟨g, 0, none⟩ = some (.slice A L.length c) := by rw [blk_cell hb]; rfl
    have hl' : (L.length : Int) < 20000 := by omega
    have hl2 : ¬ (20000 : Int) ≤ (L.length : Int) := by omega
    have hS' := Aside0.mk hS
    have hb' := Aside0.mk hb
    have hok' := Aside0.mk hok
    have hlow' := Aside0.mk hlow
    have hl3 := Aside0.mk hl'
    clear hb hf HB hS hl hok hlow
    go_enter Tryz.func31, Tryz.ntmps31
    go_wp2_with ((with_reducible refine gate_builtin (b := .append) (xs := #[.tmp 14, .tmp 15]) rfl ?_); at_builtin; refine Kd.S_append rk (w0 := w0) w0.heap.size rfl (.tmp 14) (.tmp 15) 47 63 (.slice none 0 0) 24 rfl Tryz.underlying47 info63 rfl (by decide) (by omega) (.slice A L.length c) L [] [.slice none 0 0] (fun k => (ok k ∨ w.heap.size ≤ k) ∧ k ≠ g) (fun _ => False) rfl rfl ⟨_, rfl, Kd.R_nil _ _ _ _ _⟩ (fun _ h => h.elim) ?aF ?aO HB'.out HB'.out.size ?aL ?_; (case aF => exact fun k hk => ⟨.inr hk, by have := hlt.out; omega⟩); (case aO => exact Kd.S_mono hS'.out (fun k hk => ⟨⟨.inl hk.1, hk.2⟩, fun h => h⟩)); (case aL => have := hl3.out; omega); intro v1 w1 ho hbel hg hat; obtain ⟨A1, c1, rfl⟩ := Kd.S_slice ho; have hb1 := blk_grown hb'.out hg (Kd.S_away hS'.out (fun _ hk => hk.2)); have hcell1 : w1.cell? ⟨g, 0, none⟩ = some (.slice A L.length c) := (by rw [blk_cell hb1]; rfl); have hfr1 := blk_frozen hb1 0; have n0_ := Aside0.mk ho; have n1_ := Aside0.mk hbel; have n2_ := Aside0.mk hb1; have n3_ := Aside0.mk (Kept.of_grown (S := ok) hg (Kept.refl w _) (fun k e_ => .inl (hS'.out.choose_spec.1 k e_).1)); clear ho hbel hg hat hb1)
    go_ret2
    exact ⟨by rw [HE.out]; rfl, by rw [HL.out] at HF ⊢; have h_ := PoolAt.put0 HF.out (.inl hok'.out) hlow'.out (by rw [cnt_append]; simp [cnt]) n2_.out n0_.out; rw [List.length_append, List.length_singleton] at h_; exact h_, below_set n1_.out hlow'.out, n3_.out.setCell (.inl hok'.out) _⟩
end Go.Proofs.YtneepokiioefgaaGreatDoor.Pools
