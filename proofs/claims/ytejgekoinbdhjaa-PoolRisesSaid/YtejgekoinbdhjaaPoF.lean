/- pool: the document's example; PoolQuorum. -/
import Derived.Test.YtejgekoinbdhjaaPoE
namespace Go.Proofs.Ytejgekoinbdhjaa
set_option linter.unusedVariables false
open Go Go.RowKit Go.Maps

set_option maxRecDepth 100000 in
set_option maxHeartbeats 4000000 in
theorem lives25_any (w : World) : Calls Try.prog 18 #[] w fun e w' => e = .returned (.bool true) ∧ Below w.heap.size w w' := by
  have i0 : ∀ (x0 x1 x2 : Value) (w : World), (Instr.index 155 (.agg #[x0, x1, x2]) (.int .i64 0)).run Try.prog w = .ok x0 w := fun _ _ _ _ => by kernel_rfl
  have i1 : ∀ (x0 x1 x2 : Value) (w : World), (Instr.index 155 (.agg #[x0, x1, x2]) (.int .i64 1)).run Try.prog w = .ok x1 w := fun _ _ _ _ => by kernel_rfl
  have i2 : ∀ (x0 x1 x2 : Value) (w : World), (Instr.index 155 (.agg #[x0, x1, x2]) (.int .i64 2)).run Try.prog w = .ok x2 w := fun _ _ _ _ => by kernel_rfl
  go_enter Try.func18, Try.ntmps18
  go_wp2_with (go_at_call 33; refine (new_in w 50 (by omega) (by omega)).mono ?_; rintro e w1 ⟨g, b, rfl, h0, hgg, hbb, hB⟩)
  have hz := hB.size
  refine wp_loop_rounds 4 ?_
  rw [rounds_succ]
  go_wp2_with (refine (addNew w1 g b 50 [] 0 9 1 h0 (by decide) (by simp) (by simp)).mono ?_; rintro e w2 ⟨rfl, h2, hg2⟩)
  have hB2 := below_own hB hg2 hz hbb
  have hz2 := hB2.size
  rw [rounds_succ]
  go_wp2_with (refine (addNew w2 g b 50 _ 1 9 1 h2 (by decide) (by simp) (by simp)).mono ?_; rintro e w3 ⟨rfl, h3, hg3⟩)
  have hB3 := below_own hB2 hg3 hz2 hbb
  have hz3 := hB3.size
  rw [rounds_succ]
  go_wp2_with (refine (addNew w3 g b 50 _ 2 9 2 h3 (by decide) (by simp) (by simp)).mono ?_; rintro e w4 ⟨rfl, h4, hg4⟩)
  have hB4 := below_own hB3 hg4 hz3 hbb
  have hz4 := hB4.size
  rw [rounds_succ]
  go_wp2_with (first
    | (go_at_call 23; refine (pMark w4 g b 50 _ 2 ⟨2, 9, 2, false, false⟩ true h4 rfl (by decide) (by decide)).mono ?_; rintro e w5 ⟨rfl, h5, hg5⟩; have hB5 := below_own hB4 hg5 hz4 hbb; have hM : MemsOk ([⟨0, 9, 1, false, false⟩, ⟨1, 9, 1, false, false⟩, ⟨2, 9, 2, true, false⟩] : List Mem) := ⟨by simp, by simp⟩)
    | (go_at_call 27; refine (pQuorate _ g b 50 _ h5 hM).mono ?_; rintro e w6 ⟨rfl, hb6⟩; have hB6 := hB5.trans (hb6.mono hB5.size); have h6 := h5.nx hb6)
    | (go_at_call 28; refine (pTotal _ g b 50 _ h6 hM).mono ?_; rintro e w7 ⟨rfl, hb7⟩; have hB7 := hB6.trans (hb7.mono hB6.size)))
  all_goals first
    | (go_ret; exact ⟨ret_bool (by rfl), hB7⟩)
    | (exfalso; rename_i hq; revert hq; decide)
set_option maxHeartbeats 1000000 in
theorem quorum_walk (h t p : Int) (w : World) (_w0 : (Lit.int .i64 h).wf = true) (_w1 : (Lit.int .i64 t).wf = true) (_w2 : (Lit.int .i64 p).wf = true) : Calls Try.prog 3 #[.int .i64 h, .int .i64 t, .int .i64 p] w fun e w' => e = .returned (.bool true) ∧ Below w.heap.size w w' := by
  go_enter Try.func3, Try.ntmps3
  go_wp2_with (first
    | (go_at_call 16; refine (quorum_any w h t p).mono ?_; rintro e w' ⟨rfl, rfl⟩)
    | (go_at_call 17; refine (refQuorum_any w h t p).mono ?_; rintro e w' ⟨rfl, rfl⟩)
    | (go_at_call 18; refine (lives25_any w).mono ?_; rintro e w' ⟨rfl, hb⟩))
  go_ret
  exact ⟨rfl, hb⟩
end Go.Proofs.Ytejgekoinbdhjaa
