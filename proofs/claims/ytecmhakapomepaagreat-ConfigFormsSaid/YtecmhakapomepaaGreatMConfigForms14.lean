import Derived.Laws.StructEq
import Derived.Test.YtecmhakapomepaaGreatMConfigForms2
/- config: rows that are alike. -/
namespace Go.Proofs.YtecmhakapomepaaGreat
set_option linter.unusedVariables false
open Go Go.RowKit

theorem take_nextF {α : Type} {xs ys : List α} {k : Nat} {a : α} (h : xs.take k = ys.take k) (h1 : xs[k]? = some a) (h2 : ys[k]? = some a) : xs.take (k + 1) = ys.take (k + 1) := by
  rw [List.take_add_one, List.take_add_one, h, h1, h2]
theorem neqPC (a0 a1 a2 a3 a4 a5 a6 b0 b1 b2 b3 b4 b5 b6 : Int) (w : World) : (binOp .neq 62 (.agg #[.int .i64 a0, .int .i64 a1, .int .i64 a2, .int .i64 a3, .int .i64 a4, .int .i64 a5, .int .i64 a6]) (.agg #[.int .i64 b0, .int .i64 b1, .int .i64 b2, .int .i64 b3, .int .i64 b4, .int .i64 b5, .int .i64 b6])).run Tryz.prog w = .ok (.bool (!(a0 == b0 && a1 == b1 && a2 == b2 && a3 == b3 && a4 == b4 && a5 == b5 && a6 == b6))) w := by
  by_cases h0 : a0 = b0
  case neg =>
    have e0 : (a0 == b0) = false := by simpa using h0
    go_simp
  subst h0
  by_cases h1 : a1 = b1
  case neg =>
    have e1 : (a1 == b1) = false := by simpa using h1
    go_simp
  subst h1
  by_cases h2 : a2 = b2
  case neg =>
    have e2 : (a2 == b2) = false := by simpa using h2
    go_simp
  subst h2
  by_cases h3 : a3 = b3
  case neg =>
    have e3 : (a3 == b3) = false := by simpa using h3
    go_simp
  subst h3
  by_cases h4 : a4 = b4
  case neg =>
    have e4 : (a4 == b4) = false := by simpa using h4
    go_simp
  subst h4
  by_cases h5 : a5 = b5
  case neg =>
    have e5 : (a5 == b5) = false := by simpa using h5
    go_simp
  subst h5
  by_cases h6 : a6 = b6
  case neg =>
    have e6 : (a6 == b6) = false := by simpa using h6
    go_simp
  subst h6
  go_simp
theorem neqPR (a0 a1 a2 a3 a4 a5 a6 b0 b1 b2 b3 b4 b5 b6 : Int) (w : World) : (binOp .neq 80 (.agg #[.int .i64 a0, .int .i64 a1, .int .i64 a2, .int .i64 a3, .int .i64 a4, .int .i64 a5, .int .i64 a6]) (.agg #[.int .i64 b0, .int .i64 b1, .int .i64 b2, .int .i64 b3, .int .i64 b4, .int .i64 b5, .int .i64 b6])).run Tryz.prog w = .ok (.bool (!(a0 == b0 && a1 == b1 && a2 == b2 && a3 == b3 && a4 == b4 && a5 == b5 && a6 == b6))) w := by
  by_cases h0 : a0 = b0
  case neg =>
    have e0 : (a0 == b0) = false := by simpa using h0
    go_simp
  subst h0
  by_cases h1 : a1 = b1
  case neg =>
    have e1 : (a1 == b1) = false := by simpa using h1
    go_simp
  subst h1
  by_cases h2 : a2 = b2
  case neg =>
    have e2 : (a2 == b2) = false := by simpa using h2
    go_simp
  subst h2
  by_cases h3 : a3 = b3
  case neg =>
    have e3 : (a3 == b3) = false := by simpa using h3
    go_simp
  subst h3
  by_cases h4 : a4 = b4
  case neg =>
    have e4 : (a4 == b4) = false := by simpa using h4
    go_simp
  subst h4
  by_cases h5 : a5 = b5
  case neg =>
    have e5 : (a5 == b5) = false := by simpa using h5
    go_simp
  subst h5
  by_cases h6 : a6 = b6
  case neg =>
    have e6 : (a6 == b6) = false := by simpa using h6
    go_simp
  subst h6
  go_simp
theorem neqSC (a0 a1 a2 b0 b1 b2 : Int) (w : World) : (binOp .neq 72 (.agg #[.int .i64 a0, .int .u32 a1, .int .i64 a2]) (.agg #[.int .i64 b0, .int .u32 b1, .int .i64 b2])).run Tryz.prog w = .ok (.bool (!(a0 == b0 && a1 == b1 && a2 == b2))) w := by
  by_cases h0 : a0 = b0
  case neg =>
    have e0 : (a0 == b0) = false := by simpa using h0
    go_simp
  subst h0
  by_cases h1 : a1 = b1
  case neg =>
    have e1 : (a1 == b1) = false := by simpa using h1
    go_simp
  subst h1
  by_cases h2 : a2 = b2
  case neg =>
    have e2 : (a2 == b2) = false := by simpa using h2
    go_simp
  subst h2
  go_simp
theorem neqSR (a0 a1 a2 b0 b1 b2 : Int) (w : World) : (binOp .neq 82 (.agg #[.int .i64 a0, .int .u32 a1, .int .i64 a2]) (.agg #[.int .i64 b0, .int .u32 b1, .int .i64 b2])).run Tryz.prog w = .ok (.bool (!(a0 == b0 && a1 == b1 && a2 == b2))) w := by
  by_cases h0 : a0 = b0
  case neg =>
    have e0 : (a0 == b0) = false := by simpa using h0
    go_simp
  subst h0
  by_cases h1 : a1 = b1
  case neg =>
    have e1 : (a1 == b1) = false := by simpa using h1
    go_simp
  subst h1
  by_cases h2 : a2 = b2
  case neg =>
    have e2 : (a2 == b2) = false := by simpa using h2
    go_simp
  subst h2
  go_simp
theorem neqBA (a0 a1 a2 b0 b1 b2 : Int) (w : World) : (binOp .neq 67 (.agg #[.int .i64 a0, .int .u32 a1, .int .i64 a2]) (.agg #[.int .i64 b0, .int .u32 b1, .int .i64 b2])).run Tryz.prog w = .ok (.bool (!(a0 == b0 && a1 == b1 && a2 == b2))) w := by
  by_cases h0 : a0 = b0
  case neg =>
    have e0 : (a0 == b0) = false := by simpa using h0
    go_simp
  subst h0
  by_cases h1 : a1 = b1
  case neg =>
    have e1 : (a1 == b1) = false := by simpa using h1
    go_simp
  subst h1
  by_cases h2 : a2 = b2
  case neg =>
    have e2 : (a2 == b2) = false := by simpa using h2
    go_simp
  subst h2
  go_simp
theorem eqbP (p q : PeerV) : (p.as_ == q.as_ && p.hold == q.hold && p.retry == q.retry && p.gap == q.gap && p.med == q.med && p.prep == q.prep && p.back == q.back) = decide (p = q) := by
  obtain ⟨a0, a1, a2, a3, a4, a5, a6⟩ := p
  obtain ⟨b0, b1, b2, b3, b4, b5, b6⟩ := q
  rw [Bool.eq_iff_iff]
  simp [and_assoc]
theorem eqbS (p q : SiteV) : (p.id == q.id && p.ad == q.ad && p.cost == q.cost) = decide (p = q) := by
  obtain ⟨a0, a1, a2⟩ := p
  obtain ⟨b0, b1, b2⟩ := q
  rw [Bool.eq_iff_iff]
  simp [and_assoc]
theorem eqbB (p q : BndV) : (p.id == q.id && p.ad == q.ad && p.wt == q.wt) = decide (p = q) := by
  obtain ⟨a0, a1, a2⟩ := p
  obtain ⟨b0, b1, b2⟩ := q
  rw [Bool.eq_iff_iff]
  simp [and_assoc]
set_option maxRecDepth 100000 in
set_option maxHeartbeats 4000000 in
theorem eqPC_any (w : World) (S S' : Nat → Prop) (A : Option Addr) (n c : Nat) (xs : List PeerV) (A' : Option Addr) (n' c' : Nat) (ys : List PeerV) (hx : Seen peerK w S A n xs) (hy : Seen peerK w S' A' n' ys) (hS : ∀ b, S b → b < w.heap.size) (hS' : ∀ b, S' b → b < w.heap.size) (hn : n ≤ 1000000) :
    Calls Tryz.prog 44 #[.slice A n c, .slice A' n' c'] w fun e w' => e = .returned (.bool (decide (xs = ys))) ∧ Below w.heap.size w w' := by
  have hl := Lib.hid hx.1
  have hl' := Lib.hid hy.1
  go_enter Tryz.func44, Tryz.ntmps44
  by_cases hne : n ≠ n'
  · have hb : ((n : Int) != n') = true := by rw [bne_iff_ne]; omega
    have e := Lib.hid (show decide (xs = ys) = false by rw [decide_eq_false_iff_not]; intro e; rw [e] at hl; exact hne (hl.out.symm.trans hl'.out))
    go_wp2_with fail
    go_ret
    exact ⟨ret_bool e.out.symm, Below.refl _ _⟩
  have hnn : n = n' := by omega
  subst hnn
  have hb : ((n : Int) != n) = false := by simp
  go_wp2_with fail
  go_loopw [5, 13] (fun _ i wr => ∃ k : Nat, k ≤ n ∧ i = .int .i64 (k : Int) ∧ xs.take k = ys.take k ∧ Below w.heap.size w wr) (fun _ i _ => n - (intOf i).toNat)
  case atStart => exact ⟨0, Nat.zero_le _, rfl, rfl, Below.refl _ _⟩
  case round =>
  obtain ⟨k, hk, rfl, hkey, hB⟩ := hrel
  replace hkey := Lib.hid hkey
  have hz := hB.size
  by_cases hlt : k < n
  · obtain ⟨b, off, p, rfl, hb1, hxk, -, c0, c1, c2, c3, c4, c5, c6⟩ := peer_cells (hx.below hB hS) hlt
    obtain ⟨b', off', q, rfl, hb2, hyk, -, d0, d1, d2, d3, d4, d5, d6⟩ := peer_cells (hy.below hB hS') hlt
    have lb1 : b < wr.heap.size := Nat.lt_of_lt_of_le (hS _ hb1) hz
    have lb2 : b' < wr.heap.size := Nat.lt_of_lt_of_le (hS' _ hb2) hz
    have hki : (k : Int) < n := by omega
    have hk0 : (0 : Int) ≤ k := by omega
    have hq : ∀ w : World, (binOp .neq 62 (.agg #[.int .i64 p.as_, .int .i64 p.hold, .int .i64 p.retry, .int .i64 p.gap, .int .i64 p.med, .int .i64 p.prep, .int .i64 p.back]) (.agg #[.int .i64 q.as_, .int .i64 q.hold, .int .i64 q.retry, .int .i64 q.gap, .int .i64 q.med, .int .i64 q.prep, .int .i64 q.back])).run Tryz.prog w = .ok (.bool (!decide (p = q))) w := fun w => by rw [neqPC, eqbP]
    cases he : decide (p = q)
    · have e := Lib.hid (show decide (xs = ys) = false by rw [decide_eq_false_iff_not]; intro e; rw [e, hyk] at hxk; injection hxk with hxk; exact (of_decide_eq_false he) hxk.symm)
      simp only [he, Bool.not_false] at hq
      clear he hxk hyk
      go_wp2_with fail
      -- region 6: 0 1 2 3 4 5 6 7 8
      try refine wp_region_noPanic ?_
      have hs1r : Below wr.heap.size wr wr.drew := (Below.refl _ _).drew
      refine wp_region_held_drew (S := fun w' => Below wr.heap.size wr w') (by kernel_rfl) hs1r (fun _ => ?_)
      (refine held_takeA 0 (by rfl) ?_ (by kernel_rfl) (fun _ _ _ h => h) hs1r ?_ ?_; rotate_left; (focus (intro wq hSw; have hrd : ∀ b o, b < wr.heap.size → wq.cell? ⟨b, o, none⟩ = wr.cell? ⟨b, o, none⟩ := (fun b o h => hSw.cell (p := ⟨b, o, none⟩) h); go_simp; try with_reducible rfl; done)); try simp only [Act.put, List.setIfInBounds_toArray, List.set_cons_zero, List.set_cons_succ])
      (refine held_takeA 1 (by rfl) ?_ (by kernel_rfl) (fun _ _ _ h => h) hs1r ?_ ?_; rotate_left; (focus (intro wq hSw; have hrd : ∀ b o, b < wr.heap.size → wq.cell? ⟨b, o, none⟩ = wr.cell? ⟨b, o, none⟩ := (fun b o h => hSw.cell (p := ⟨b, o, none⟩) h); go_simp; try with_reducible rfl; done)); try simp only [Act.put, List.setIfInBounds_toArray, List.set_cons_zero, List.set_cons_succ])
      (refine held_takeA 2 (by rfl) ?_ (by kernel_rfl) (fun _ _ _ h => h) hs1r ?_ ?_; rotate_left; (focus (intro wq hSw; have hrd : ∀ b o, b < wr.heap.size → wq.cell? ⟨b, o, none⟩ = wr.cell? ⟨b, o, none⟩ := (fun b o h => hSw.cell (p := ⟨b, o, none⟩) h); go_simp; try with_reducible rfl; done)); try simp only [Act.put, List.setIfInBounds_toArray, List.set_cons_zero, List.set_cons_succ])
      (refine held_takeA 3 (by rfl) ?_ (by kernel_rfl) (fun _ _ _ h => h) hs1r ?_ ?_; rotate_left; (focus (intro wq hSw; have hrd : ∀ b o, b < wr.heap.size → wq.cell? ⟨b, o, none⟩ = wr.cell? ⟨b, o, none⟩ := (fun b o h => hSw.cell (p := ⟨b, o, none⟩) h); go_simp; try with_reducible rfl; done)); try simp only [Act.put, List.setIfInBounds_toArray, List.set_cons_zero, List.set_cons_succ])
      (refine held_takeA 4 (by rfl) ?_ (by kernel_rfl) (fun _ _ _ h => h) hs1r ?_ ?_; rotate_left; (focus (intro wq hSw; have hrd : ∀ b o, b < wr.heap.size → wq.cell? ⟨b, o, none⟩ = wr.cell? ⟨b, o, none⟩ := (fun b o h => hSw.cell (p := ⟨b, o, none⟩) h); go_simp; try with_reducible rfl; done)); try simp only [Act.put, List.setIfInBounds_toArray, List.set_cons_zero, List.set_cons_succ])
      (refine held_takeA 5 (by rfl) ?_ (by kernel_rfl) (fun _ _ _ h => h) hs1r ?_ ?_; rotate_left; (focus (intro wq hSw; have hrd : ∀ b o, b < wr.heap.size → wq.cell? ⟨b, o, none⟩ = wr.cell? ⟨b, o, none⟩ := (fun b o h => hSw.cell (p := ⟨b, o, none⟩) h); go_simp; try with_reducible rfl; done)); try simp only [Act.put, List.setIfInBounds_toArray, List.set_cons_zero, List.set_cons_succ])
      (refine held_takeA 6 (by rfl) ?_ (by kernel_rfl) (fun _ _ _ h => h) hs1r ?_ ?_; rotate_left; (focus (intro wq hSw; have hrd : ∀ b o, b < wr.heap.size → wq.cell? ⟨b, o, none⟩ = wr.cell? ⟨b, o, none⟩ := (fun b o h => hSw.cell (p := ⟨b, o, none⟩) h); go_simp; try with_reducible rfl; done)); try simp only [Act.put, List.setIfInBounds_toArray, List.set_cons_zero, List.set_cons_succ])
      (refine held_takeA 7 (by rfl) ?_ (by kernel_rfl) (fun _ _ _ h => h) hs1r ?_ ?_; rotate_left; (focus (intro wq hSw; have hrd : ∀ b o, b < wr.heap.size → wq.cell? ⟨b, o, none⟩ = wr.cell? ⟨b, o, none⟩ := (fun b o h => hSw.cell (p := ⟨b, o, none⟩) h); go_simp; try with_reducible rfl; done)); try simp only [Act.put, List.setIfInBounds_toArray, List.set_cons_zero, List.set_cons_succ])
      (refine held_takeA 8 (by rfl) ?_ (by kernel_rfl) (fun _ _ _ h => h) hs1r ?_ ?_; rotate_left; (focus (intro wq hSw; have hrd : ∀ b o, b < wr.heap.size → wq.cell? ⟨b, o, none⟩ = wr.cell? ⟨b, o, none⟩ := (fun b o h => hSw.cell (p := ⟨b, o, none⟩) h); go_simp; try with_reducible rfl; done)); try simp only [Act.put, List.setIfInBounds_toArray, List.set_cons_zero, List.set_cons_succ])
      refine wpAnyH_done (by kernel_rfl) ?_ _
      try refine NoPanic.normal ?_
      go_wp2_with fail
      go_ret
      exact ⟨ret_bool e.out.symm, hB.drew⟩
    · have e0 : p = q := of_decide_eq_true he
      rw [← e0] at hyk
      have e := Lib.hid (take_nextF hkey.out hxk hyk)
      simp only [he, Bool.not_true] at hq
      clear he hxk hyk e0
      go_wp2_with fail
      -- region 6: 0 1 2 3 4 5 6 7 8
      try refine wp_region_noPanic ?_
      have hs2r : Below wr.heap.size wr wr.drew := (Below.refl _ _).drew
      refine wp_region_held_drew (S := fun w' => Below wr.heap.size wr w') (by kernel_rfl) hs2r (fun _ => ?_)
      (refine held_takeA 0 (by rfl) ?_ (by kernel_rfl) (fun _ _ _ h => h) hs2r ?_ ?_; rotate_left; (focus (intro wq hSw; have hrd : ∀ b o, b < wr.heap.size → wq.cell? ⟨b, o, none⟩ = wr.cell? ⟨b, o, none⟩ := (fun b o h => hSw.cell (p := ⟨b, o, none⟩) h); go_simp; try with_reducible rfl; done)); try simp only [Act.put, List.setIfInBounds_toArray, List.set_cons_zero, List.set_cons_succ])
      (refine held_takeA 1 (by rfl) ?_ (by kernel_rfl) (fun _ _ _ h => h) hs2r ?_ ?_; rotate_left; (focus (intro wq hSw; have hrd : ∀ b o, b < wr.heap.size → wq.cell? ⟨b, o, none⟩ = wr.cell? ⟨b, o, none⟩ := (fun b o h => hSw.cell (p := ⟨b, o, none⟩) h); go_simp; try with_reducible rfl; done)); try simp only [Act.put, List.setIfInBounds_toArray, List.set_cons_zero, List.set_cons_succ])
      (refine held_takeA 2 (by rfl) ?_ (by kernel_rfl) (fun _ _ _ h => h) hs2r ?_ ?_; rotate_left; (focus (intro wq hSw; have hrd : ∀ b o, b < wr.heap.size → wq.cell? ⟨b, o, none⟩ = wr.cell? ⟨b, o, none⟩ := (fun b o h => hSw.cell (p := ⟨b, o, none⟩) h); go_simp; try with_reducible rfl; done)); try simp only [Act.put, List.setIfInBounds_toArray, List.set_cons_zero, List.set_cons_succ])
      (refine held_takeA 3 (by rfl) ?_ (by kernel_rfl) (fun _ _ _ h => h) hs2r ?_ ?_; rotate_left; (focus (intro wq hSw; have hrd : ∀ b o, b < wr.heap.size → wq.cell? ⟨b, o, none⟩ = wr.cell? ⟨b, o, none⟩ := (fun b o h => hSw.cell (p := ⟨b, o, none⟩) h); go_simp; try with_reducible rfl; done)); try simp only [Act.put, List.setIfInBounds_toArray, List.set_cons_zero, List.set_cons_succ])
      (refine held_takeA 4 (by rfl) ?_ (by kernel_rfl) (fun _ _ _ h => h) hs2r ?_ ?_; rotate_left; (focus (intro wq hSw; have hrd : ∀ b o, b < wr.heap.size → wq.cell? ⟨b, o, none⟩ = wr.cell? ⟨b, o, none⟩ := (fun b o h => hSw.cell (p := ⟨b, o, none⟩) h); go_simp; try with_reducible rfl; done)); try simp only [Act.put, List.setIfInBounds_toArray, List.set_cons_zero, List.set_cons_succ])
      (refine held_takeA 5 (by rfl) ?_ (by kernel_rfl) (fun _ _ _ h => h) hs2r ?_ ?_; rotate_left; (focus (intro wq hSw; have hrd : ∀ b o, b < wr.heap.size → wq.cell? ⟨b, o, none⟩ = wr.cell? ⟨b, o, none⟩ := (fun b o h => hSw.cell (p := ⟨b, o, none⟩) h); go_simp; try with_reducible rfl; done)); try simp only [Act.put, List.setIfInBounds_toArray, List.set_cons_zero, List.set_cons_succ])
      (refine held_takeA 6 (by rfl) ?_ (by kernel_rfl) (fun _ _ _ h => h) hs2r ?_ ?_; rotate_left; (focus (intro wq hSw; have hrd : ∀ b o, b < wr.heap.size → wq.cell? ⟨b, o, none⟩ = wr.cell? ⟨b, o, none⟩ := (fun b o h => hSw.cell (p := ⟨b, o, none⟩) h); go_simp; try with_reducible rfl; done)); try simp only [Act.put, List.setIfInBounds_toArray, List.set_cons_zero, List.set_cons_succ])
      (refine held_takeA 7 (by rfl) ?_ (by kernel_rfl) (fun _ _ _ h => h) hs2r ?_ ?_; rotate_left; (focus (intro wq hSw; have hrd : ∀ b o, b < wr.heap.size → wq.cell? ⟨b, o, none⟩ = wr.cell? ⟨b, o, none⟩ := (fun b o h => hSw.cell (p := ⟨b, o, none⟩) h); go_simp; try with_reducible rfl; done)); try simp only [Act.put, List.setIfInBounds_toArray, List.set_cons_zero, List.set_cons_succ])
      (refine held_takeA 8 (by rfl) ?_ (by kernel_rfl) (fun _ _ _ h => h) hs2r ?_ ?_; rotate_left; (focus (intro wq hSw; have hrd : ∀ b o, b < wr.heap.size → wq.cell? ⟨b, o, none⟩ = wr.cell? ⟨b, o, none⟩ := (fun b o h => hSw.cell (p := ⟨b, o, none⟩) h); go_simp; try with_reducible rfl; done)); try simp only [Act.put, List.setIfInBounds_toArray, List.set_cons_zero, List.set_cons_succ])
      refine wpAnyH_done (by kernel_rfl) ?_ _
      try refine NoPanic.normal ?_
      go_wp2_with fail
      exact ⟨⟨k + 1, by omega, by go_num, e.out, hB.drew⟩, by simp [intOf]; omega⟩
  · obtain rfl : k = n := by omega
    have e : decide (xs = ys) = true := by
      have := hkey.out
      rw [List.take_of_length_le (by have := hl.out; omega), List.take_of_length_le (by have := hl'.out; omega)] at this
      simpa using this
    replace e := Lib.hid e
    go_wp2_with fail
    go_ret
    exact ⟨ret_bool e.out.symm, hB⟩
set_option maxRecDepth 100000 in
set_option maxHeartbeats 4000000 in
theorem eqSC_any (w : World) (S S' : Nat → Prop) (A : Option Addr) (n c : Nat) (xs : List SiteV) (A' : Option Addr) (n' c' : Nat) (ys : List SiteV) (hx : Seen siteK w S A n xs) (hy : Seen siteK w S' A' n' ys) (hS : ∀ b, S b → b < w.heap.size) (hS' : ∀ b, S' b → b < w.heap.size) (hn : n ≤ 1000000) :
    Calls Tryz.prog 45 #[.slice A n c, .slice A' n' c'] w fun e w' => e = .returned (.bool (decide (xs = ys))) ∧ Below w.heap.size w w' := by
  have hl := Lib.hid hx.1
  have hl' := Lib.hid hy.1
  go_enter Tryz.func45, Tryz.ntmps45
  by_cases hne : n ≠ n'
  · have hb : ((n : Int) != n') = true := by rw [bne_iff_ne]; omega
    have e := Lib.hid (show decide (xs = ys) = false by rw [decide_eq_false_iff_not]; intro e; rw [e] at hl; exact hne (hl.out.symm.trans hl'.out))
    go_wp2_with fail
    go_ret
    exact ⟨ret_bool e.out.symm, Below.refl _ _⟩
  have hnn : n = n' := by omega
  subst hnn
  have hb : ((n : Int) != n) = false := by simp
  go_wp2_with fail
  go_loopw [5, 13] (fun _ i wr => ∃ k : Nat, k ≤ n ∧ i = .int .i64 (k : Int) ∧ xs.take k = ys.take k ∧ Below w.heap.size w wr) (fun _ i _ => n - (intOf i).toNat)
  case atStart => exact ⟨0, Nat.zero_le _, rfl, rfl, Below.refl _ _⟩
  case round =>
  obtain ⟨k, hk, rfl, hkey, hB⟩ := hrel
  replace hkey := Lib.hid hkey
  have hz := hB.size
  by_cases hlt : k < n
  · obtain ⟨b, off, p, rfl, hb1, hxk, -, c0, c1, c2⟩ := site_cells (hx.below hB hS) hlt
    obtain ⟨b', off', q, rfl, hb2, hyk, -, d0, d1, d2⟩ := site_cells (hy.below hB hS') hlt
    have lb1 : b < wr.heap.size := Nat.lt_of_lt_of_le (hS _ hb1) hz
    have lb2 : b' < wr.heap.size := Nat.lt_of_lt_of_le (hS' _ hb2) hz
    have hki : (k : Int) < n := by omega
    have hk0 : (0 : Int) ≤ k := by omega
    have hq : ∀ w : World, (binOp .neq 72 (.agg #[.int .i64 p.id, .int .u32 p.ad, .int .i64 p.cost]) (.agg #[.int .i64 q.id, .int .u32 q.ad, .int .i64 q.cost])).run Tryz.prog w = .ok (.bool (!decide (p = q))) w := fun w => by rw [neqSC, eqbS]
    cases he : decide (p = q)
    · have e := Lib.hid (show decide (xs = ys) = false by rw [decide_eq_false_iff_not]; intro e; rw [e, hyk] at hxk; injection hxk with hxk; exact (of_decide_eq_false he) hxk.symm)
      simp only [he, Bool.not_false] at hq
      clear he hxk hyk
      go_wp2_with fail
      -- region 6: 0 1 2 3 4 5 6 7 8
      try refine wp_region_noPanic ?_
      have hs3r : Below wr.heap.size wr wr.drew := (Below.refl _ _).drew
      refine wp_region_held_drew (S := fun w' => Below wr.heap.size wr w') (by kernel_rfl) hs3r (fun _ => ?_)
      (refine held_takeA 0 (by rfl) ?_ (by kernel_rfl) (fun _ _ _ h => h) hs3r ?_ ?_; rotate_left; (focus (intro wq hSw; have hrd : ∀ b o, b < wr.heap.size → wq.cell? ⟨b, o, none⟩ = wr.cell? ⟨b, o, none⟩ := (fun b o h => hSw.cell (p := ⟨b, o, none⟩) h); go_simp; try with_reducible rfl; done)); try simp only [Act.put, List.setIfInBounds_toArray, List.set_cons_zero, List.set_cons_succ])
      (refine held_takeA 1 (by rfl) ?_ (by kernel_rfl) (fun _ _ _ h => h) hs3r ?_ ?_; rotate_left; (focus (intro wq hSw; have hrd : ∀ b o, b < wr.heap.size → wq.cell? ⟨b, o, none⟩ = wr.cell? ⟨b, o, none⟩ := (fun b o h => hSw.cell (p := ⟨b, o, none⟩) h); go_simp; try with_reducible rfl; done)); try simp only [Act.put, List.setIfInBounds_toArray, List.set_cons_zero, List.set_cons_succ])
      (refine held_takeA 2 (by rfl) ?_ (by kernel_rfl) (fun _ _ _ h => h) hs3r ?_ ?_; rotate_left; (focus (intro wq hSw; have hrd : ∀ b o, b < wr.heap.size → wq.cell? ⟨b, o, none⟩ = wr.cell? ⟨b, o, none⟩ := (fun b o h => hSw.cell (p := ⟨b, o, none⟩) h); go_simp; try with_reducible rfl; done)); try simp only [Act.put, List.setIfInBounds_toArray, List.set_cons_zero, List.set_cons_succ])
      (refine held_takeA 3 (by rfl) ?_ (by kernel_rfl) (fun _ _ _ h => h) hs3r ?_ ?_; rotate_left; (focus (intro wq hSw; have hrd : ∀ b o, b < wr.heap.size → wq.cell? ⟨b, o, none⟩ = wr.cell? ⟨b, o, none⟩ := (fun b o h => hSw.cell (p := ⟨b, o, none⟩) h); go_simp; try with_reducible rfl; done)); try simp only [Act.put, List.setIfInBounds_toArray, List.set_cons_zero, List.set_cons_succ])
      (refine held_takeA 4 (by rfl) ?_ (by kernel_rfl) (fun _ _ _ h => h) hs3r ?_ ?_; rotate_left; (focus (intro wq hSw; have hrd : ∀ b o, b < wr.heap.size → wq.cell? ⟨b, o, none⟩ = wr.cell? ⟨b, o, none⟩ := (fun b o h => hSw.cell (p := ⟨b, o, none⟩) h); go_simp; try with_reducible rfl; done)); try simp only [Act.put, List.setIfInBounds_toArray, List.set_cons_zero, List.set_cons_succ])
      (refine held_takeA 5 (by rfl) ?_ (by kernel_rfl) (fun _ _ _ h => h) hs3r ?_ ?_; rotate_left; (focus (intro wq hSw; have hrd : ∀ b o, b < wr.heap.size → wq.cell? ⟨b, o, none⟩ = wr.cell? ⟨b, o, none⟩ := (fun b o h => hSw.cell (p := ⟨b, o, none⟩) h); go_simp; try with_reducible rfl; done)); try simp only [Act.put, List.setIfInBounds_toArray, List.set_cons_zero, List.set_cons_succ])
      (refine held_takeA 6 (by rfl) ?_ (by kernel_rfl) (fun _ _ _ h => h) hs3r ?_ ?_; rotate_left; (focus (intro wq hSw; have hrd : ∀ b o, b < wr.heap.size → wq.cell? ⟨b, o, none⟩ = wr.cell? ⟨b, o, none⟩ := (fun b o h => hSw.cell (p := ⟨b, o, none⟩) h); go_simp; try with_reducible rfl; done)); try simp only [Act.put, List.setIfInBounds_toArray, List.set_cons_zero, List.set_cons_succ])
      (refine held_takeA 7 (by rfl) ?_ (by kernel_rfl) (fun _ _ _ h => h) hs3r ?_ ?_; rotate_left; (focus (intro wq hSw; have hrd : ∀ b o, b < wr.heap.size → wq.cell? ⟨b, o, none⟩ = wr.cell? ⟨b, o, none⟩ := (fun b o h => hSw.cell (p := ⟨b, o, none⟩) h); go_simp; try with_reducible rfl; done)); try simp only [Act.put, List.setIfInBounds_toArray, List.set_cons_zero, List.set_cons_succ])
      (refine held_takeA 8 (by rfl) ?_ (by kernel_rfl) (fun _ _ _ h => h) hs3r ?_ ?_; rotate_left; (focus (intro wq hSw; have hrd : ∀ b o, b < wr.heap.size → wq.cell? ⟨b, o, none⟩ = wr.cell? ⟨b, o, none⟩ := (fun b o h => hSw.cell (p := ⟨b, o, none⟩) h); go_simp; try with_reducible rfl; done)); try simp only [Act.put, List.setIfInBounds_toArray, List.set_cons_zero, List.set_cons_succ])
      refine wpAnyH_done (by kernel_rfl) ?_ _
      try refine NoPanic.normal ?_
      go_wp2_with fail
      go_ret
      exact ⟨ret_bool e.out.symm, hB.drew⟩
    · have e0 : p = q := of_decide_eq_true he
      rw [← e0] at hyk
      have e := Lib.hid (take_nextF hkey.out hxk hyk)
      simp only [he, Bool.not_true] at hq
      clear he hxk hyk e0
      go_wp2_with fail
      -- region 6: 0 1 2 3 4 5 6 7 8
      try refine wp_region_noPanic ?_
      have hs4r : Below wr.heap.size wr wr.drew := (Below.refl _ _).drew
      refine wp_region_held_drew (S := fun w' => Below wr.heap.size wr w') (by kernel_rfl) hs4r (fun _ => ?_)
      (refine held_takeA 0 (by rfl) ?_ (by kernel_rfl) (fun _ _ _ h => h) hs4r ?_ ?_; rotate_left; (focus (intro wq hSw; have hrd : ∀ b o, b < wr.heap.size → wq.cell? ⟨b, o, none⟩ = wr.cell? ⟨b, o, none⟩ := (fun b o h => hSw.cell (p := ⟨b, o, none⟩) h); go_simp; try with_reducible rfl; done)); try simp only [Act.put, List.setIfInBounds_toArray, List.set_cons_zero, List.set_cons_succ])
      (refine held_takeA 1 (by rfl) ?_ (by kernel_rfl) (fun _ _ _ h => h) hs4r ?_ ?_; rotate_left; (focus (intro wq hSw; have hrd : ∀ b o, b < wr.heap.size → wq.cell? ⟨b, o, none⟩ = wr.cell? ⟨b, o, none⟩ := (fun b o h => hSw.cell (p := ⟨b, o, none⟩) h); go_simp; try with_reducible rfl; done)); try simp only [Act.put, List.setIfInBounds_toArray, List.set_cons_zero, List.set_cons_succ])
      (refine held_takeA 2 (by rfl) ?_ (by kernel_rfl) (fun _ _ _ h => h) hs4r ?_ ?_; rotate_left; (focus (intro wq hSw; have hrd : ∀ b o, b < wr.heap.size → wq.cell? ⟨b, o, none⟩ = wr.cell? ⟨b, o, none⟩ := (fun b o h => hSw.cell (p := ⟨b, o, none⟩) h); go_simp; try with_reducible rfl; done)); try simp only [Act.put, List.setIfInBounds_toArray, List.set_cons_zero, List.set_cons_succ])
      (refine held_takeA 3 (by rfl) ?_ (by kernel_rfl) (fun _ _ _ h => h) hs4r ?_ ?_; rotate_left; (focus (intro wq hSw; have hrd : ∀ b o, b < wr.heap.size → wq.cell? ⟨b, o, none⟩ = wr.cell? ⟨b, o, none⟩ := (fun b o h => hSw.cell (p := ⟨b, o, none⟩) h); go_simp; try with_reducible rfl; done)); try simp only [Act.put, List.setIfInBounds_toArray, List.set_cons_zero, List.set_cons_succ])
      (refine held_takeA 4 (by rfl) ?_ (by kernel_rfl) (fun _ _ _ h => h) hs4r ?_ ?_; rotate_left; (focus (intro wq hSw; have hrd : ∀ b o, b < wr.heap.size → wq.cell? ⟨b, o, none⟩ = wr.cell? ⟨b, o, none⟩ := (fun b o h => hSw.cell (p := ⟨b, o, none⟩) h); go_simp; try with_reducible rfl; done)); try simp only [Act.put, List.setIfInBounds_toArray, List.set_cons_zero, List.set_cons_succ])
      (refine held_takeA 5 (by rfl) ?_ (by kernel_rfl) (fun _ _ _ h => h) hs4r ?_ ?_; rotate_left; (focus (intro wq hSw; have hrd : ∀ b o, b < wr.heap.size → wq.cell? ⟨b, o, none⟩ = wr.cell? ⟨b, o, none⟩ := (fun b o h => hSw.cell (p := ⟨b, o, none⟩) h); go_simp; try with_reducible rfl; done)); try simp only [Act.put, List.setIfInBounds_toArray, List.set_cons_zero, List.set_cons_succ])
      (refine held_takeA 6 (by rfl) ?_ (by kernel_rfl) (fun _ _ _ h => h) hs4r ?_ ?_; rotate_left; (focus (intro wq hSw; have hrd : ∀ b o, b < wr.heap.size → wq.cell? ⟨b, o, none⟩ = wr.cell? ⟨b, o, none⟩ := (fun b o h => hSw.cell (p := ⟨b, o, none⟩) h); go_simp; try with_reducible rfl; done)); try simp only [Act.put, List.setIfInBounds_toArray, List.set_cons_zero, List.set_cons_succ])
      (refine held_takeA 7 (by rfl) ?_ (by kernel_rfl) (fun _ _ _ h => h) hs4r ?_ ?_; rotate_left; (focus (intro wq hSw; have hrd : ∀ b o, b < wr.heap.size → wq.cell? ⟨b, o, none⟩ = wr.cell? ⟨b, o, none⟩ := (fun b o h => hSw.cell (p := ⟨b, o, none⟩) h); go_simp; try with_reducible rfl; done)); try simp only [Act.put, List.setIfInBounds_toArray, List.set_cons_zero, List.set_cons_succ])
      (refine held_takeA 8 (by rfl) ?_ (by kernel_rfl) (fun _ _ _ h => h) hs4r ?_ ?_; rotate_left; (focus (intro wq hSw; have hrd : ∀ b o, b < wr.heap.size → wq.cell? ⟨b, o, none⟩ = wr.cell? ⟨b, o, none⟩ := (fun b o h => hSw.cell (p := ⟨b, o, none⟩) h); go_simp; try with_reducible rfl; done)); try simp only [Act.put, List.setIfInBounds_toArray, List.set_cons_zero, List.set_cons_succ])
      refine wpAnyH_done (by kernel_rfl) ?_ _
      try refine NoPanic.normal ?_
      go_wp2_with fail
      exact ⟨⟨k + 1, by omega, by go_num, e.out, hB.drew⟩, by simp [intOf]; omega⟩
  · obtain rfl : k = n := by omega
    have e : decide (xs = ys) = true := by
      have := hkey.out
      rw [List.take_of_length_le (by have := hl.out; omega), List.take_of_length_le (by have := hl'.out; omega)] at this
      simpa using this
    replace e := Lib.hid e
    go_wp2_with fail
    go_ret
    exact ⟨ret_bool e.out.symm, hB⟩
set_option maxRecDepth 100000 in
set_option maxHeartbeats 4000000 in
theorem eqSR_any (w : World) (S S' : Nat → Prop) (A : Option Addr) (n c : Nat) (xs : List SiteV) (A' : Option Addr) (n' c' : Nat) (ys : List SiteV) (hx : Seen siteK w S A n xs) (hy : Seen siteK w S' A' n' ys) (hS : ∀ b, S b → b < w.heap.size) (hS' : ∀ b, S' b → b < w.heap.size) (hn : n ≤ 1000000) :
    Calls Tryz.prog 41 #[.slice A n c, .slice A' n' c'] w fun e w' => e = .returned (.bool (decide (xs = ys))) ∧ Below w.heap.size w w' := by
  have hl := Lib.hid hx.1
  have hl' := Lib.hid hy.1
  go_enter Tryz.func41, Tryz.ntmps41
  by_cases hne : n ≠ n'
  · have hb : ((n : Int) != n') = true := by rw [bne_iff_ne]; omega
    have e := Lib.hid (show decide (xs = ys) = false by rw [decide_eq_false_iff_not]; intro e; rw [e] at hl; exact hne (hl.out.symm.trans hl'.out))
    go_wp2_with fail
    go_ret
    exact ⟨ret_bool e.out.symm, Below.refl _ _⟩
  have hnn : n = n' := by omega
  subst hnn
  have hb : ((n : Int) != n) = false := by simp
  go_wp2_with fail
  go_loopw [5, 13] (fun _ i wr => ∃ k : Nat, k ≤ n ∧ i = .int .i64 (k : Int) ∧ xs.take k = ys.take k ∧ Below w.heap.size w wr) (fun _ i _ => n - (intOf i).toNat)
  case atStart => exact ⟨0, Nat.zero_le _, rfl, rfl, Below.refl _ _⟩
  case round =>
  obtain ⟨k, hk, rfl, hkey, hB⟩ := hrel
  replace hkey := Lib.hid hkey
  have hz := hB.size
  by_cases hlt : k < n
  · obtain ⟨b, off, p, rfl, hb1, hxk, -, c0, c1, c2⟩ := site_cells (hx.below hB hS) hlt
    obtain ⟨b', off', q, rfl, hb2, hyk, -, d0, d1, d2⟩ := site_cells (hy.below hB hS') hlt
    have lb1 : b < wr.heap.size := Nat.lt_of_lt_of_le (hS _ hb1) hz
    have lb2 : b' < wr.heap.size := Nat.lt_of_lt_of_le (hS' _ hb2) hz
    have hki : (k : Int) < n := by omega
    have hk0 : (0 : Int) ≤ k := by omega
    have hq : ∀ w : World, (binOp .neq 82 (.agg #[.int .i64 p.id, .int .u32 p.ad, .int .i64 p.cost]) (.agg #[.int .i64 q.id, .int .u32 q.ad, .int .i64 q.cost])).run Tryz.prog w = .ok (.bool (!decide (p = q))) w := fun w => by rw [neqSR, eqbS]
    cases he : decide (p = q)
    · have e := Lib.hid (show decide (xs = ys) = false by rw [decide_eq_false_iff_not]; intro e; rw [e, hyk] at hxk; injection hxk with hxk; exact (of_decide_eq_false he) hxk.symm)
      simp only [he, Bool.not_false] at hq
      clear he hxk hyk
      go_wp2_with fail
      -- region 6: 0 1 2 3 4 5 6 7 8
      try refine wp_region_noPanic ?_
      have hs5r : Below wr.heap.size wr wr.drew := (Below.refl _ _).drew
      refine wp_region_held_drew (S := fun w' => Below wr.heap.size wr w') (by kernel_rfl) hs5r (fun _ => ?_)
      (refine held_takeA 0 (by rfl) ?_ (by kernel_rfl) (fun _ _ _ h => h) hs5r ?_ ?_; rotate_left; (focus (intro wq hSw; have hrd : ∀ b o, b < wr.heap.size → wq.cell? ⟨b, o, none⟩ = wr.cell? ⟨b, o, none⟩ := (fun b o h => hSw.cell (p := ⟨b, o, none⟩) h); go_simp; try with_reducible rfl; done)); try simp only [Act.put, List.setIfInBounds_toArray, List.set_cons_zero, List.set_cons_succ])
      (refine held_takeA 1 (by rfl) ?_ (by kernel_rfl) (fun _ _ _ h => h) hs5r ?_ ?_; rotate_left; (focus (intro wq hSw; have hrd : ∀ b o, b < wr.heap.size → wq.cell? ⟨b, o, none⟩ = wr.cell? ⟨b, o, none⟩ := (fun b o h => hSw.cell (p := ⟨b, o, none⟩) h); go_simp; try with_reducible rfl; done)); try simp only [Act.put, List.setIfInBounds_toArray, List.set_cons_zero, List.set_cons_succ])
      (refine held_takeA 2 (by rfl) ?_ (by kernel_rfl) (fun _ _ _ h => h) hs5r ?_ ?_; rotate_left; (focus (intro wq hSw; have hrd : ∀ b o, b < wr.heap.size → wq.cell? ⟨b, o, none⟩ = wr.cell? ⟨b, o, none⟩ := (fun b o h => hSw.cell (p := ⟨b, o, none⟩) h); go_simp; try with_reducible rfl; done)); try simp only [Act.put, List.setIfInBounds_toArray, List.set_cons_zero, List.set_cons_succ])
      (refine held_takeA 3 (by rfl) ?_ (by kernel_rfl) (fun _ _ _ h => h) hs5r ?_ ?_; rotate_left; (focus (intro wq hSw; have hrd : ∀ b o, b < wr.heap.size → wq.cell? ⟨b, o, none⟩ = wr.cell? ⟨b, o, none⟩ := (fun b o h => hSw.cell (p := ⟨b, o, none⟩) h); go_simp; try with_reducible rfl; done)); try simp only [Act.put, List.setIfInBounds_toArray, List.set_cons_zero, List.set_cons_succ])
      (refine held_takeA 4 (by rfl) ?_ (by kernel_rfl) (fun _ _ _ h => h) hs5r ?_ ?_; rotate_left; (focus (intro wq hSw; have hrd : ∀ b o, b < wr.heap.size → wq.cell? ⟨b, o, none⟩ = wr.cell? ⟨b, o, none⟩ := (fun b o h => hSw.cell (p := ⟨b, o, none⟩) h); go_simp; try with_reducible rfl; done)); try simp only [Act.put, List.setIfInBounds_toArray, List.set_cons_zero, List.set_cons_succ])
      (refine held_takeA 5 (by rfl) ?_ (by kernel_rfl) (fun _ _ _ h => h) hs5r ?_ ?_; rotate_left; (focus (intro wq hSw; have hrd : ∀ b o, b < wr.heap.size → wq.cell? ⟨b, o, none⟩ = wr.cell? ⟨b, o, none⟩ := (fun b o h => hSw.cell (p := ⟨b, o, none⟩) h); go_simp; try with_reducible rfl; done)); try simp only [Act.put, List.setIfInBounds_toArray, List.set_cons_zero, List.set_cons_succ])
      (refine held_takeA 6 (by rfl) ?_ (by kernel_rfl) (fun _ _ _ h => h) hs5r ?_ ?_; rotate_left; (focus (intro wq hSw; have hrd : ∀ b o, b < wr.heap.size → wq.cell? ⟨b, o, none⟩ = wr.cell? ⟨b, o, none⟩ := (fun b o h => hSw.cell (p := ⟨b, o, none⟩) h); go_simp; try with_reducible rfl; done)); try simp only [Act.put, List.setIfInBounds_toArray, List.set_cons_zero, List.set_cons_succ])
      (refine held_takeA 7 (by rfl) ?_ (by kernel_rfl) (fun _ _ _ h => h) hs5r ?_ ?_; rotate_left; (focus (intro wq hSw; have hrd : ∀ b o, b < wr.heap.size → wq.cell? ⟨b, o, none⟩ = wr.cell? ⟨b, o, none⟩ := (fun b o h => hSw.cell (p := ⟨b, o, none⟩) h); go_simp; try with_reducible rfl; done)); try simp only [Act.put, List.setIfInBounds_toArray, List.set_cons_zero, List.set_cons_succ])
      (refine held_takeA 8 (by rfl) ?_ (by kernel_rfl) (fun _ _ _ h => h) hs5r ?_ ?_; rotate_left; (focus (intro wq hSw; have hrd : ∀ b o, b < wr.heap.size → wq.cell? ⟨b, o, none⟩ = wr.cell? ⟨b, o, none⟩ := (fun b o h => hSw.cell (p := ⟨b, o, none⟩) h); go_simp; try with_reducible rfl; done)); try simp only [Act.put, List.setIfInBounds_toArray, List.set_cons_zero, List.set_cons_succ])
      refine wpAnyH_done (by kernel_rfl) ?_ _
      try refine NoPanic.normal ?_
      go_wp2_with fail
      go_ret
      exact ⟨ret_bool e.out.symm, hB.drew⟩
    · have e0 : p = q := of_decide_eq_true he
      rw [← e0] at hyk
      have e := Lib.hid (take_nextF hkey.out hxk hyk)
      simp only [he, Bool.not_true] at hq
      clear he hxk hyk e0
      go_wp2_with fail
      -- region 6: 0 1 2 3 4 5 6 7 8
      try refine wp_region_noPanic ?_
      have hs6r : Below wr.heap.size wr wr.drew := (Below.refl _ _).drew
      refine wp_region_held_drew (S := fun w' => Below wr.heap.size wr w') (by kernel_rfl) hs6r (fun _ => ?_)
      (refine held_takeA 0 (by rfl) ?_ (by kernel_rfl) (fun _ _ _ h => h) hs6r ?_ ?_; rotate_left; (focus (intro wq hSw; have hrd : ∀ b o, b < wr.heap.size → wq.cell? ⟨b, o, none⟩ = wr.cell? ⟨b, o, none⟩ := (fun b o h => hSw.cell (p := ⟨b, o, none⟩) h); go_simp; try with_reducible rfl; done)); try simp only [Act.put, List.setIfInBounds_toArray, List.set_cons_zero, List.set_cons_succ])
      (refine held_takeA 1 (by rfl) ?_ (by kernel_rfl) (fun _ _ _ h => h) hs6r ?_ ?_; rotate_left; (focus (intro wq hSw; have hrd : ∀ b o, b < wr.heap.size → wq.cell? ⟨b, o, none⟩ = wr.cell? ⟨b, o, none⟩ := (fun b o h => hSw.cell (p := ⟨b, o, none⟩) h); go_simp; try with_reducible rfl; done)); try simp only [Act.put, List.setIfInBounds_toArray, List.set_cons_zero, List.set_cons_succ])
      (refine held_takeA 2 (by rfl) ?_ (by kernel_rfl) (fun _ _ _ h => h) hs6r ?_ ?_; rotate_left; (focus (intro wq hSw; have hrd : ∀ b o, b < wr.heap.size → wq.cell? ⟨b, o, none⟩ = wr.cell? ⟨b, o, none⟩ := (fun b o h => hSw.cell (p := ⟨b, o, none⟩) h); go_simp; try with_reducible rfl; done)); try simp only [Act.put, List.setIfInBounds_toArray, List.set_cons_zero, List.set_cons_succ])
      (refine held_takeA 3 (by rfl) ?_ (by kernel_rfl) (fun _ _ _ h => h) hs6r ?_ ?_; rotate_left; (focus (intro wq hSw; have hrd : ∀ b o, b < wr.heap.size → wq.cell? ⟨b, o, none⟩ = wr.cell? ⟨b, o, none⟩ := (fun b o h => hSw.cell (p := ⟨b, o, none⟩) h); go_simp; try with_reducible rfl; done)); try simp only [Act.put, List.setIfInBounds_toArray, List.set_cons_zero, List.set_cons_succ])
      (refine held_takeA 4 (by rfl) ?_ (by kernel_rfl) (fun _ _ _ h => h) hs6r ?_ ?_; rotate_left; (focus (intro wq hSw; have hrd : ∀ b o, b < wr.heap.size → wq.cell? ⟨b, o, none⟩ = wr.cell? ⟨b, o, none⟩ := (fun b o h => hSw.cell (p := ⟨b, o, none⟩) h); go_simp; try with_reducible rfl; done)); try simp only [Act.put, List.setIfInBounds_toArray, List.set_cons_zero, List.set_cons_succ])
      (refine held_takeA 5 (by rfl) ?_ (by kernel_rfl) (fun _ _ _ h => h) hs6r ?_ ?_; rotate_left; (focus (intro wq hSw; have hrd : ∀ b o, b < wr.heap.size → wq.cell? ⟨b, o, none⟩ = wr.cell? ⟨b, o, none⟩ := (fun b o h => hSw.cell (p := ⟨b, o, none⟩) h); go_simp; try with_reducible rfl; done)); try simp only [Act.put, List.setIfInBounds_toArray, List.set_cons_zero, List.set_cons_succ])
      (refine held_takeA 6 (by rfl) ?_ (by kernel_rfl) (fun _ _ _ h => h) hs6r ?_ ?_; rotate_left; (focus (intro wq hSw; have hrd : ∀ b o, b < wr.heap.size → wq.cell? ⟨b, o, none⟩ = wr.cell? ⟨b, o, none⟩ := (fun b o h => hSw.cell (p := ⟨b, o, none⟩) h); go_simp; try with_reducible rfl; done)); try simp only [Act.put, List.setIfInBounds_toArray, List.set_cons_zero, List.set_cons_succ])
      (refine held_takeA 7 (by rfl) ?_ (by kernel_rfl) (fun _ _ _ h => h) hs6r ?_ ?_; rotate_left; (focus (intro wq hSw; have hrd : ∀ b o, b < wr.heap.size → wq.cell? ⟨b, o, none⟩ = wr.cell? ⟨b, o, none⟩ := (fun b o h => hSw.cell (p := ⟨b, o, none⟩) h); go_simp; try with_reducible rfl; done)); try simp only [Act.put, List.setIfInBounds_toArray, List.set_cons_zero, List.set_cons_succ])
      (refine held_takeA 8 (by rfl) ?_ (by kernel_rfl) (fun _ _ _ h => h) hs6r ?_ ?_; rotate_left; (focus (intro wq hSw; have hrd : ∀ b o, b < wr.heap.size → wq.cell? ⟨b, o, none⟩ = wr.cell? ⟨b, o, none⟩ := (fun b o h => hSw.cell (p := ⟨b, o, none⟩) h); go_simp; try with_reducible rfl; done)); try simp only [Act.put, List.setIfInBounds_toArray, List.set_cons_zero, List.set_cons_succ])
      refine wpAnyH_done (by kernel_rfl) ?_ _
      try refine NoPanic.normal ?_
      go_wp2_with fail
      exact ⟨⟨k + 1, by omega, by go_num, e.out, hB.drew⟩, by simp [intOf]; omega⟩
  · obtain rfl : k = n := by omega
    have e : decide (xs = ys) = true := by
      have := hkey.out
      rw [List.take_of_length_le (by have := hl.out; omega), List.take_of_length_le (by have := hl'.out; omega)] at this
      simpa using this
    replace e := Lib.hid e
    go_wp2_with fail
    go_ret
    exact ⟨ret_bool e.out.symm, hB⟩
set_option maxRecDepth 100000 in
set_option maxHeartbeats 4000000 in
theorem eqBC_any (w : World) (S S' : Nat → Prop) (A : Option Addr) (n c : Nat) (xs : List BndV) (A' : Option Addr) (n' c' : Nat) (ys : List BndV) (hx : Seen bndK w S A n xs) (hy : Seen bndK w S' A' n' ys) (hS : ∀ b, S b → b < w.heap.size) (hS' : ∀ b, S' b → b < w.heap.size) (hn : n ≤ 1000000) :
    Calls Tryz.prog 80 #[.slice A n c, .slice A' n' c'] w fun e w' => e = .returned (.bool (decide (xs = ys))) ∧ Below w.heap.size w w' := by
  have hl := Lib.hid hx.1
  have hl' := Lib.hid hy.1
  go_enter Tryz.func80, Tryz.ntmps80
  by_cases hne : n ≠ n'
  · have hb : ((n : Int) != n') = true := by rw [bne_iff_ne]; omega
    have e := Lib.hid (show decide (xs = ys) = false by rw [decide_eq_false_iff_not]; intro e; rw [e] at hl; exact hne (hl.out.symm.trans hl'.out))
    go_wp2_with fail
    go_ret
    exact ⟨ret_bool e.out.symm, Below.refl _ _⟩
  have hnn : n = n' := by omega
  subst hnn
  have hb : ((n : Int) != n) = false := by simp
  go_wp2_with fail
  go_loopw [5, 13] (fun _ i wr => ∃ k : Nat, k ≤ n ∧ i = .int .i64 (k : Int) ∧ xs.take k = ys.take k ∧ Below w.heap.size w wr) (fun _ i _ => n - (intOf i).toNat)
  case atStart => exact ⟨0, Nat.zero_le _, rfl, rfl, Below.refl _ _⟩
  case round =>
  obtain ⟨k, hk, rfl, hkey, hB⟩ := hrel
  replace hkey := Lib.hid hkey
  have hz := hB.size
  by_cases hlt : k < n
  · obtain ⟨b, off, p, rfl, hb1, hxk, -, c0, c1, c2⟩ := bnd_cells (hx.below hB hS) hlt
    obtain ⟨b', off', q, rfl, hb2, hyk, -, d0, d1, d2⟩ := bnd_cells (hy.below hB hS') hlt
    have lb1 : b < wr.heap.size := Nat.lt_of_lt_of_le (hS _ hb1) hz
    have lb2 : b' < wr.heap.size := Nat.lt_of_lt_of_le (hS' _ hb2) hz
    have hki : (k : Int) < n := by omega
    have hk0 : (0 : Int) ≤ k := by omega
    have hq : ∀ w : World, (binOp .neq 67 (.agg #[.int .i64 p.id, .int .u32 p.ad, .int .i64 p.wt]) (.agg #[.int .i64 q.id, .int .u32 q.ad, .int .i64 q.wt])).run Tryz.prog w = .ok (.bool (!decide (p = q))) w := fun w => by rw [neqBA, eqbB]
    cases he : decide (p = q)
    · have e := Lib.hid (show decide (xs = ys) = false by rw [decide_eq_false_iff_not]; intro e; rw [e, hyk] at hxk; injection hxk with hxk; exact (of_decide_eq_false he) hxk.symm)
      simp only [he, Bool.not_false] at hq
      clear he hxk hyk
      go_wp2_with fail
      -- region 6: 0 1 2 3 4 5 6 7 8
      try refine wp_region_noPanic ?_
      have hs7r : Below wr.heap.size wr wr.drew := (Below.refl _ _).drew
      refine wp_region_held_drew (S := fun w' => Below wr.heap.size wr w') (by kernel_rfl) hs7r (fun _ => ?_)
      (refine held_takeA 0 (by rfl) ?_ (by kernel_rfl) (fun _ _ _ h => h) hs7r ?_ ?_; rotate_left; (focus (intro wq hSw; have hrd : ∀ b o, b < wr.heap.size → wq.cell? ⟨b, o, none⟩ = wr.cell? ⟨b, o, none⟩ := (fun b o h => hSw.cell (p := ⟨b, o, none⟩) h); go_simp; try with_reducible rfl; done)); try simp only [Act.put, List.setIfInBounds_toArray, List.set_cons_zero, List.set_cons_succ])
      (refine held_takeA 1 (by rfl) ?_ (by kernel_rfl) (fun _ _ _ h => h) hs7r ?_ ?_; rotate_left; (focus (intro wq hSw; have hrd : ∀ b o, b < wr.heap.size → wq.cell? ⟨b, o, none⟩ = wr.cell? ⟨b, o, none⟩ := (fun b o h => hSw.cell (p := ⟨b, o, none⟩) h); go_simp; try with_reducible rfl; done)); try simp only [Act.put, List.setIfInBounds_toArray, List.set_cons_zero, List.set_cons_succ])
      (refine held_takeA 2 (by rfl) ?_ (by kernel_rfl) (fun _ _ _ h => h) hs7r ?_ ?_; rotate_left; (focus (intro wq hSw; have hrd : ∀ b o, b < wr.heap.size → wq.cell? ⟨b, o, none⟩ = wr.cell? ⟨b, o, none⟩ := (fun b o h => hSw.cell (p := ⟨b, o, none⟩) h); go_simp; try with_reducible rfl; done)); try simp only [Act.put, List.setIfInBounds_toArray, List.set_cons_zero, List.set_cons_succ])
      (refine held_takeA 3 (by rfl) ?_ (by kernel_rfl) (fun _ _ _ h => h) hs7r ?_ ?_; rotate_left; (focus (intro wq hSw; have hrd : ∀ b o, b < wr.heap.size → wq.cell? ⟨b, o, none⟩ = wr.cell? ⟨b, o, none⟩ := (fun b o h => hSw.cell (p := ⟨b, o, none⟩) h); go_simp; try with_reducible rfl; done)); try simp only [Act.put, List.setIfInBounds_toArray, List.set_cons_zero, List.set_cons_succ])
      (refine held_takeA 4 (by rfl) ?_ (by kernel_rfl) (fun _ _ _ h => h) hs7r ?_ ?_; rotate_left; (focus (intro wq hSw; have hrd : ∀ b o, b < wr.heap.size → wq.cell? ⟨b, o, none⟩ = wr.cell? ⟨b, o, none⟩ := (fun b o h => hSw.cell (p := ⟨b, o, none⟩) h); go_simp; try with_reducible rfl; done)); try simp only [Act.put, List.setIfInBounds_toArray, List.set_cons_zero, List.set_cons_succ])
      (refine held_takeA 5 (by rfl) ?_ (by kernel_rfl) (fun _ _ _ h => h) hs7r ?_ ?_; rotate_left; (focus (intro wq hSw; have hrd : ∀ b o, b < wr.heap.size → wq.cell? ⟨b, o, none⟩ = wr.cell? ⟨b, o, none⟩ := (fun b o h => hSw.cell (p := ⟨b, o, none⟩) h); go_simp; try with_reducible rfl; done)); try simp only [Act.put, List.setIfInBounds_toArray, List.set_cons_zero, List.set_cons_succ])
      (refine held_takeA 6 (by rfl) ?_ (by kernel_rfl) (fun _ _ _ h => h) hs7r ?_ ?_; rotate_left; (focus (intro wq hSw; have hrd : ∀ b o, b < wr.heap.size → wq.cell? ⟨b, o, none⟩ = wr.cell? ⟨b, o, none⟩ := (fun b o h => hSw.cell (p := ⟨b, o, none⟩) h); go_simp; try with_reducible rfl; done)); try simp only [Act.put, List.setIfInBounds_toArray, List.set_cons_zero, List.set_cons_succ])
      (refine held_takeA 7 (by rfl) ?_ (by kernel_rfl) (fun _ _ _ h => h) hs7r ?_ ?_; rotate_left; (focus (intro wq hSw; have hrd : ∀ b o, b < wr.heap.size → wq.cell? ⟨b, o, none⟩ = wr.cell? ⟨b, o, none⟩ := (fun b o h => hSw.cell (p := ⟨b, o, none⟩) h); go_simp; try with_reducible rfl; done)); try simp only [Act.put, List.setIfInBounds_toArray, List.set_cons_zero, List.set_cons_succ])
      (refine held_takeA 8 (by rfl) ?_ (by kernel_rfl) (fun _ _ _ h => h) hs7r ?_ ?_; rotate_left; (focus (intro wq hSw; have hrd : ∀ b o, b < wr.heap.size → wq.cell? ⟨b, o, none⟩ = wr.cell? ⟨b, o, none⟩ := (fun b o h => hSw.cell (p := ⟨b, o, none⟩) h); go_simp; try with_reducible rfl; done)); try simp only [Act.put, List.setIfInBounds_toArray, List.set_cons_zero, List.set_cons_succ])
      refine wpAnyH_done (by kernel_rfl) ?_ _
      try refine NoPanic.normal ?_
      go_wp2_with fail
      go_ret
      exact ⟨ret_bool e.out.symm, hB.drew⟩
    · have e0 : p = q := of_decide_eq_true he
      rw [← e0] at hyk
      have e := Lib.hid (take_nextF hkey.out hxk hyk)
      simp only [he, Bool.not_true] at hq
      clear he hxk hyk e0
      go_wp2_with fail
      -- region 6: 0 1 2 3 4 5 6 7 8
      try refine wp_region_noPanic ?_
      have hs8r : Below wr.heap.size wr wr.drew := (Below.refl _ _).drew
      refine wp_region_held_drew (S := fun w' => Below wr.heap.size wr w') (by kernel_rfl) hs8r (fun _ => ?_)
      (refine held_takeA 0 (by rfl) ?_ (by kernel_rfl) (fun _ _ _ h => h) hs8r ?_ ?_; rotate_left; (focus (intro wq hSw; have hrd : ∀ b o, b < wr.heap.size → wq.cell? ⟨b, o, none⟩ = wr.cell? ⟨b, o, none⟩ := (fun b o h => hSw.cell (p := ⟨b, o, none⟩) h); go_simp; try with_reducible rfl; done)); try simp only [Act.put, List.setIfInBounds_toArray, List.set_cons_zero, List.set_cons_succ])
      (refine held_takeA 1 (by rfl) ?_ (by kernel_rfl) (fun _ _ _ h => h) hs8r ?_ ?_; rotate_left; (focus (intro wq hSw; have hrd : ∀ b o, b < wr.heap.size → wq.cell? ⟨b, o, none⟩ = wr.cell? ⟨b, o, none⟩ := (fun b o h => hSw.cell (p := ⟨b, o, none⟩) h); go_simp; try with_reducible rfl; done)); try simp only [Act.put, List.setIfInBounds_toArray, List.set_cons_zero, List.set_cons_succ])
      (refine held_takeA 2 (by rfl) ?_ (by kernel_rfl) (fun _ _ _ h => h) hs8r ?_ ?_; rotate_left; (focus (intro wq hSw; have hrd : ∀ b o, b < wr.heap.size → wq.cell? ⟨b, o, none⟩ = wr.cell? ⟨b, o, none⟩ := (fun b o h => hSw.cell (p := ⟨b, o, none⟩) h); go_simp; try with_reducible rfl; done)); try simp only [Act.put, List.setIfInBounds_toArray, List.set_cons_zero, List.set_cons_succ])
      (refine held_takeA 3 (by rfl) ?_ (by kernel_rfl) (fun _ _ _ h => h) hs8r ?_ ?_; rotate_left; (focus (intro wq hSw; have hrd : ∀ b o, b < wr.heap.size → wq.cell? ⟨b, o, none⟩ = wr.cell? ⟨b, o, none⟩ := (fun b o h => hSw.cell (p := ⟨b, o, none⟩) h); go_simp; try with_reducible rfl; done)); try simp only [Act.put, List.setIfInBounds_toArray, List.set_cons_zero, List.set_cons_succ])
      (refine held_takeA 4 (by rfl) ?_ (by kernel_rfl) (fun _ _ _ h => h) hs8r ?_ ?_; rotate_left; (focus (intro wq hSw; have hrd : ∀ b o, b < wr.heap.size → wq.cell? ⟨b, o, none⟩ = wr.cell? ⟨b, o, none⟩ := (fun b o h => hSw.cell (p := ⟨b, o, none⟩) h); go_simp; try with_reducible rfl; done)); try simp only [Act.put, List.setIfInBounds_toArray, List.set_cons_zero, List.set_cons_succ])
      (refine held_takeA 5 (by rfl) ?_ (by kernel_rfl) (fun _ _ _ h => h) hs8r ?_ ?_; rotate_left; (focus (intro wq hSw; have hrd : ∀ b o, b < wr.heap.size → wq.cell? ⟨b, o, none⟩ = wr.cell? ⟨b, o, none⟩ := (fun b o h => hSw.cell (p := ⟨b, o, none⟩) h); go_simp; try with_reducible rfl; done)); try simp only [Act.put, List.setIfInBounds_toArray, List.set_cons_zero, List.set_cons_succ])
      (refine held_takeA 6 (by rfl) ?_ (by kernel_rfl) (fun _ _ _ h => h) hs8r ?_ ?_; rotate_left; (focus (intro wq hSw; have hrd : ∀ b o, b < wr.heap.size → wq.cell? ⟨b, o, none⟩ = wr.cell? ⟨b, o, none⟩ := (fun b o h => hSw.cell (p := ⟨b, o, none⟩) h); go_simp; try with_reducible rfl; done)); try simp only [Act.put, List.setIfInBounds_toArray, List.set_cons_zero, List.set_cons_succ])
      (refine held_takeA 7 (by rfl) ?_ (by kernel_rfl) (fun _ _ _ h => h) hs8r ?_ ?_; rotate_left; (focus (intro wq hSw; have hrd : ∀ b o, b < wr.heap.size → wq.cell? ⟨b, o, none⟩ = wr.cell? ⟨b, o, none⟩ := (fun b o h => hSw.cell (p := ⟨b, o, none⟩) h); go_simp; try with_reducible rfl; done)); try simp only [Act.put, List.setIfInBounds_toArray, List.set_cons_zero, List.set_cons_succ])
      (refine held_takeA 8 (by rfl) ?_ (by kernel_rfl) (fun _ _ _ h => h) hs8r ?_ ?_; rotate_left; (focus (intro wq hSw; have hrd : ∀ b o, b < wr.heap.size → wq.cell? ⟨b, o, none⟩ = wr.cell? ⟨b, o, none⟩ := (fun b o h => hSw.cell (p := ⟨b, o, none⟩) h); go_simp; try with_reducible rfl; done)); try simp only [Act.put, List.setIfInBounds_toArray, List.set_cons_zero, List.set_cons_succ])
      refine wpAnyH_done (by kernel_rfl) ?_ _
      try refine NoPanic.normal ?_
      go_wp2_with fail
      exact ⟨⟨k + 1, by omega, by go_num, e.out, hB.drew⟩, by simp [intOf]; omega⟩
  · obtain rfl : k = n := by omega
    have e : decide (xs = ys) = true := by
      have := hkey.out
      rw [List.take_of_length_le (by have := hl.out; omega), List.take_of_length_le (by have := hl'.out; omega)] at this
      simpa using this
    replace e := Lib.hid e
    go_wp2_with fail
    go_ret
    exact ⟨ret_bool e.out.symm, hB⟩
set_option maxRecDepth 100000 in
set_option maxHeartbeats 4000000 in
theorem eqBR_any (w : World) (S S' : Nat → Prop) (A : Option Addr) (n c : Nat) (xs : List BndV) (A' : Option Addr) (n' c' : Nat) (ys : List BndV) (hx : Seen bndK w S A n xs) (hy : Seen bndK w S' A' n' ys) (hS : ∀ b, S b → b < w.heap.size) (hS' : ∀ b, S' b → b < w.heap.size) (hn : n ≤ 1000000) :
    Calls Tryz.prog 42 #[.slice A n c, .slice A' n' c'] w fun e w' => e = .returned (.bool (decide (xs = ys))) ∧ Below w.heap.size w w' := by
  have hl := Lib.hid hx.1
  have hl' := Lib.hid hy.1
  go_enter Tryz.func42, Tryz.ntmps42
  by_cases hne : n ≠ n'
  · have hb : ((n : Int) != n') = true := by rw [bne_iff_ne]; omega
    have e := Lib.hid (show decide (xs = ys) = false by rw [decide_eq_false_iff_not]; intro e; rw [e] at hl; exact hne (hl.out.symm.trans hl'.out))
    go_wp2_with fail
    go_ret
    exact ⟨ret_bool e.out.symm, Below.refl _ _⟩
  have hnn : n = n' := by omega
  subst hnn
  have hb : ((n : Int) != n) = false := by simp
  go_wp2_with fail
  go_loopw [5, 13] (fun _ i wr => ∃ k : Nat, k ≤ n ∧ i = .int .i64 (k : Int) ∧ xs.take k = ys.take k ∧ Below w.heap.size w wr) (fun _ i _ => n - (intOf i).toNat)
  case atStart => exact ⟨0, Nat.zero_le _, rfl, rfl, Below.refl _ _⟩
  case round =>
  obtain ⟨k, hk, rfl, hkey, hB⟩ := hrel
  replace hkey := Lib.hid hkey
  have hz := hB.size
  by_cases hlt : k < n
  · obtain ⟨b, off, p, rfl, hb1, hxk, -, c0, c1, c2⟩ := bnd_cells (hx.below hB hS) hlt
    obtain ⟨b', off', q, rfl, hb2, hyk, -, d0, d1, d2⟩ := bnd_cells (hy.below hB hS') hlt
    have lb1 : b < wr.heap.size := Nat.lt_of_lt_of_le (hS _ hb1) hz
    have lb2 : b' < wr.heap.size := Nat.lt_of_lt_of_le (hS' _ hb2) hz
    have hki : (k : Int) < n := by omega
    have hk0 : (0 : Int) ≤ k := by omega
    have hq : ∀ w : World, (binOp .neq 67 (.agg #[.int .i64 p.id, .int .u32 p.ad, .int .i64 p.wt]) (.agg #[.int .i64 q.id, .int .u32 q.ad, .int .i64 q.wt])).run Tryz.prog w = .ok (.bool (!decide (p = q))) w := fun w => by rw [neqBA, eqbB]
    cases he : decide (p = q)
    · have e := Lib.hid (show decide (xs = ys) = false by rw [decide_eq_false_iff_not]; intro e; rw [e, hyk] at hxk; injection hxk with hxk; exact (of_decide_eq_false he) hxk.symm)
      simp only [he, Bool.not_false] at hq
      clear he hxk hyk
      go_wp2_with fail
      -- region 6: 0 1 2 3 4 5 6 7 8
      try refine wp_region_noPanic ?_
      have hs9r : Below wr.heap.size wr wr.drew := (Below.refl _ _).drew
      refine wp_region_held_drew (S := fun w' => Below wr.heap.size wr w') (by kernel_rfl) hs9r (fun _ => ?_)
      (refine held_takeA 0 (by rfl) ?_ (by kernel_rfl) (fun _ _ _ h => h) hs9r ?_ ?_; rotate_left; (focus (intro wq hSw; have hrd : ∀ b o, b < wr.heap.size → wq.cell? ⟨b, o, none⟩ = wr.cell? ⟨b, o, none⟩ := (fun b o h => hSw.cell (p := ⟨b, o, none⟩) h); go_simp; try with_reducible rfl; done)); try simp only [Act.put, List.setIfInBounds_toArray, List.set_cons_zero, List.set_cons_succ])
      (refine held_takeA 1 (by rfl) ?_ (by kernel_rfl) (fun _ _ _ h => h) hs9r ?_ ?_; rotate_left; (focus (intro wq hSw; have hrd : ∀ b o, b < wr.heap.size → wq.cell? ⟨b, o, none⟩ = wr.cell? ⟨b, o, none⟩ := (fun b o h => hSw.cell (p := ⟨b, o, none⟩) h); go_simp; try with_reducible rfl; done)); try simp only [Act.put, List.setIfInBounds_toArray, List.set_cons_zero, List.set_cons_succ])
      (refine held_takeA 2 (by rfl) ?_ (by kernel_rfl) (fun _ _ _ h => h) hs9r ?_ ?_; rotate_left; (focus (intro wq hSw; have hrd : ∀ b o, b < wr.heap.size → wq.cell? ⟨b, o, none⟩ = wr.cell? ⟨b, o, none⟩ := (fun b o h => hSw.cell (p := ⟨b, o, none⟩) h); go_simp; try with_reducible rfl; done)); try simp only [Act.put, List.setIfInBounds_toArray, List.set_cons_zero, List.set_cons_succ])
      (refine held_takeA 3 (by rfl) ?_ (by kernel_rfl) (fun _ _ _ h => h) hs9r ?_ ?_; rotate_left; (focus (intro wq hSw; have hrd : ∀ b o, b < wr.heap.size → wq.cell? ⟨b, o, none⟩ = wr.cell? ⟨b, o, none⟩ := (fun b o h => hSw.cell (p := ⟨b, o, none⟩) h); go_simp; try with_reducible rfl; done)); try simp only [Act.put, List.setIfInBounds_toArray, List.set_cons_zero, List.set_cons_succ])
      (refine held_takeA 4 (by rfl) ?_ (by kernel_rfl) (fun _ _ _ h => h) hs9r ?_ ?_; rotate_left; (focus (intro wq hSw; have hrd : ∀ b o, b < wr.heap.size → wq.cell? ⟨b, o, none⟩ = wr.cell? ⟨b, o, none⟩ := (fun b o h => hSw.cell (p := ⟨b, o, none⟩) h); go_simp; try with_reducible rfl; done)); try simp only [Act.put, List.setIfInBounds_toArray, List.set_cons_zero, List.set_cons_succ])
      (refine held_takeA 5 (by rfl) ?_ (by kernel_rfl) (fun _ _ _ h => h) hs9r ?_ ?_; rotate_left; (focus (intro wq hSw; have hrd : ∀ b o, b < wr.heap.size → wq.cell? ⟨b, o, none⟩ = wr.cell? ⟨b, o, none⟩ := (fun b o h => hSw.cell (p := ⟨b, o, none⟩) h); go_simp; try with_reducible rfl; done)); try simp only [Act.put, List.setIfInBounds_toArray, List.set_cons_zero, List.set_cons_succ])
      (refine held_takeA 6 (by rfl) ?_ (by kernel_rfl) (fun _ _ _ h => h) hs9r ?_ ?_; rotate_left; (focus (intro wq hSw; have hrd : ∀ b o, b < wr.heap.size → wq.cell? ⟨b, o, none⟩ = wr.cell? ⟨b, o, none⟩ := (fun b o h => hSw.cell (p := ⟨b, o, none⟩) h); go_simp; try with_reducible rfl; done)); try simp only [Act.put, List.setIfInBounds_toArray, List.set_cons_zero, List.set_cons_succ])
      (refine held_takeA 7 (by rfl) ?_ (by kernel_rfl) (fun _ _ _ h => h) hs9r ?_ ?_; rotate_left; (focus (intro wq hSw; have hrd : ∀ b o, b < wr.heap.size → wq.cell? ⟨b, o, none⟩ = wr.cell? ⟨b, o, none⟩ := (fun b o h => hSw.cell (p := ⟨b, o, none⟩) h); go_simp; try with_reducible rfl; done)); try simp only [Act.put, List.setIfInBounds_toArray, List.set_cons_zero, List.set_cons_succ])
      (refine held_takeA 8 (by rfl) ?_ (by kernel_rfl) (fun _ _ _ h => h) hs9r ?_ ?_; rotate_left; (focus (intro wq hSw; have hrd : ∀ b o, b < wr.heap.size → wq.cell? ⟨b, o, none⟩ = wr.cell? ⟨b, o, none⟩ := (fun b o h => hSw.cell (p := ⟨b, o, none⟩) h); go_simp; try with_reducible rfl; done)); try simp only [Act.put, List.setIfInBounds_toArray, List.set_cons_zero, List.set_cons_succ])
      refine wpAnyH_done (by kernel_rfl) ?_ _
      try refine NoPanic.normal ?_
      go_wp2_with fail
      go_ret
      exact ⟨ret_bool e.out.symm, hB.drew⟩
    · have e0 : p = q := of_decide_eq_true he
      rw [← e0] at hyk
      have e := Lib.hid (take_nextF hkey.out hxk hyk)
      simp only [he, Bool.not_true] at hq
      clear he hxk hyk e0
      go_wp2_with fail
      -- region 6: 0 1 2 3 4 5 6 7 8
      try refine wp_region_noPanic ?_
      have hs10r : Below wr.heap.size wr wr.drew := (Below.refl _ _).drew
      refine wp_region_held_drew (S := fun w' => Below wr.heap.size wr w') (by kernel_rfl) hs10r (fun _ => ?_)
      (refine held_takeA 0 (by rfl) ?_ (by kernel_rfl) (fun _ _ _ h => h) hs10r ?_ ?_; rotate_left; (focus (intro wq hSw; have hrd : ∀ b o, b < wr.heap.size → wq.cell? ⟨b, o, none⟩ = wr.cell? ⟨b, o, none⟩ := (fun b o h => hSw.cell (p := ⟨b, o, none⟩) h); go_simp; try with_reducible rfl; done)); try simp only [Act.put, List.setIfInBounds_toArray, List.set_cons_zero, List.set_cons_succ])
      (refine held_takeA 1 (by rfl) ?_ (by kernel_rfl) (fun _ _ _ h => h) hs10r ?_ ?_; rotate_left; (focus (intro wq hSw; have hrd : ∀ b o, b < wr.heap.size → wq.cell? ⟨b, o, none⟩ = wr.cell? ⟨b, o, none⟩ := (fun b o h => hSw.cell (p := ⟨b, o, none⟩) h); go_simp; try with_reducible rfl; done)); try simp only [Act.put, List.setIfInBounds_toArray, List.set_cons_zero, List.set_cons_succ])
      (refine held_takeA 2 (by rfl) ?_ (by kernel_rfl) (fun _ _ _ h => h) hs10r ?_ ?_; rotate_left; (focus (intro wq hSw; have hrd : ∀ b o, b < wr.heap.size → wq.cell? ⟨b, o, none⟩ = wr.cell? ⟨b, o, none⟩ := (fun b o h => hSw.cell (p := ⟨b, o, none⟩) h); go_simp; try with_reducible rfl; done)); try simp only [Act.put, List.setIfInBounds_toArray, List.set_cons_zero, List.set_cons_succ])
      (refine held_takeA 3 (by rfl) ?_ (by kernel_rfl) (fun _ _ _ h => h) hs10r ?_ ?_; rotate_left; (focus (intro wq hSw; have hrd : ∀ b o, b < wr.heap.size → wq.cell? ⟨b, o, none⟩ = wr.cell? ⟨b, o, none⟩ := (fun b o h => hSw.cell (p := ⟨b, o, none⟩) h); go_simp; try with_reducible rfl; done)); try simp only [Act.put, List.setIfInBounds_toArray, List.set_cons_zero, List.set_cons_succ])
      (refine held_takeA 4 (by rfl) ?_ (by kernel_rfl) (fun _ _ _ h => h) hs10r ?_ ?_; rotate_left; (focus (intro wq hSw; have hrd : ∀ b o, b < wr.heap.size → wq.cell? ⟨b, o, none⟩ = wr.cell? ⟨b, o, none⟩ := (fun b o h => hSw.cell (p := ⟨b, o, none⟩) h); go_simp; try with_reducible rfl; done)); try simp only [Act.put, List.setIfInBounds_toArray, List.set_cons_zero, List.set_cons_succ])
      (refine held_takeA 5 (by rfl) ?_ (by kernel_rfl) (fun _ _ _ h => h) hs10r ?_ ?_; rotate_left; (focus (intro wq hSw; have hrd : ∀ b o, b < wr.heap.size → wq.cell? ⟨b, o, none⟩ = wr.cell? ⟨b, o, none⟩ := (fun b o h => hSw.cell (p := ⟨b, o, none⟩) h); go_simp; try with_reducible rfl; done)); try simp only [Act.put, List.setIfInBounds_toArray, List.set_cons_zero, List.set_cons_succ])
      (refine held_takeA 6 (by rfl) ?_ (by kernel_rfl) (fun _ _ _ h => h) hs10r ?_ ?_; rotate_left; (focus (intro wq hSw; have hrd : ∀ b o, b < wr.heap.size → wq.cell? ⟨b, o, none⟩ = wr.cell? ⟨b, o, none⟩ := (fun b o h => hSw.cell (p := ⟨b, o, none⟩) h); go_simp; try with_reducible rfl; done)); try simp only [Act.put, List.setIfInBounds_toArray, List.set_cons_zero, List.set_cons_succ])
      (refine held_takeA 7 (by rfl) ?_ (by kernel_rfl) (fun _ _ _ h => h) hs10r ?_ ?_; rotate_left; (focus (intro wq hSw; have hrd : ∀ b o, b < wr.heap.size → wq.cell? ⟨b, o, none⟩ = wr.cell? ⟨b, o, none⟩ := (fun b o h => hSw.cell (p := ⟨b, o, none⟩) h); go_simp; try with_reducible rfl; done)); try simp only [Act.put, List.setIfInBounds_toArray, List.set_cons_zero, List.set_cons_succ])
      (refine held_takeA 8 (by rfl) ?_ (by kernel_rfl) (fun _ _ _ h => h) hs10r ?_ ?_; rotate_left; (focus (intro wq hSw; have hrd : ∀ b o, b < wr.heap.size → wq.cell? ⟨b, o, none⟩ = wr.cell? ⟨b, o, none⟩ := (fun b o h => hSw.cell (p := ⟨b, o, none⟩) h); go_simp; try with_reducible rfl; done)); try simp only [Act.put, List.setIfInBounds_toArray, List.set_cons_zero, List.set_cons_succ])
      refine wpAnyH_done (by kernel_rfl) ?_ _
      try refine NoPanic.normal ?_
      go_wp2_with fail
      exact ⟨⟨k + 1, by omega, by go_num, e.out, hB.drew⟩, by simp [intOf]; omega⟩
  · obtain rfl : k = n := by omega
    have e : decide (xs = ys) = true := by
      have := hkey.out
      rw [List.take_of_length_le (by have := hl.out; omega), List.take_of_length_le (by have := hl'.out; omega)] at this
      simpa using this
    replace e := Lib.hid e
    go_wp2_with fail
    go_ret
    exact ⟨ret_bool e.out.symm, hB⟩
theorem neqDR (a0 a1 a2 a3 a4 b0 b1 b2 b3 b4 : Int) (w : World) : (binOp .neq 39 (.agg #[.int .i64 a0, .int .i64 a1, .int .i64 a2, .int .i64 a3, .int .i64 a4]) (.agg #[.int .i64 b0, .int .i64 b1, .int .i64 b2, .int .i64 b3, .int .i64 b4])).run Tryz.prog w = .ok (.bool (!(a0 == b0 && a1 == b1 && a2 == b2 && a3 == b3 && a4 == b4))) w := by
  by_cases h0 : a0 = b0
  case neg =>
    have e0 : (a0 == b0) = false := by simpa using h0
    go_simp
  subst h0
  by_cases h1 : a1 = b1
  case neg =>
    have e1 : (a1 == b1) = false := by simpa using h1
    go_simp
  subst h1
  by_cases h2 : a2 = b2
  case neg =>
    have e2 : (a2 == b2) = false := by simpa using h2
    go_simp
  subst h2
  by_cases h3 : a3 = b3
  case neg =>
    have e3 : (a3 == b3) = false := by simpa using h3
    go_simp
  subst h3
  by_cases h4 : a4 = b4
  case neg =>
    have e4 : (a4 == b4) = false := by simpa using h4
    go_simp
  subst h4
  go_simp
end Go.Proofs.YtecmhakapomepaaGreat
