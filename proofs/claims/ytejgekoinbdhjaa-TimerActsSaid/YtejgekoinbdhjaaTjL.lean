/- timer: Copy. -/
import Derived.Test.YtejgekoinbdhjaaTjK
namespace Go.Proofs.Ytejgekoinbdhjaa
set_option linter.unusedVariables false
open Go Go.RowKit Go.Maps

set_option maxRecDepth 100000 in
set_option maxHeartbeats 8000000 in
theorem copyX {w : World} {X : Nat → Prop} {g : Nat} {mo no co : Int} {M : List Slo} (h : TabX w X g mo no co M) (hco : co ≤ 1000000) :
    Calls Try.prog 65 #[.pointer (some ⟨g, 0, none⟩)] w fun e w' => ∃ g2 X2, e = .returned (.pointer (some ⟨g2, 0, none⟩)) ∧ TabX w' X2 g2 mo no co M ∧ (∀ k, X2 k → w.heap.size ≤ k) ∧ Below w.heap.size w w' := by
  obtain ⟨b, v, A, H, hT, hG, hX, hlt⟩ := h
  obtain ⟨A0, c, rfl, -, -, hS⟩ := hT.row.seen (Nat.le_refl _)
  have hS0 := hS.more (S' := fun b => b < w.heap.size) fun b q => q.2
  have hHl : H.length ≤ 1000000 := by have := hG.hmo; have := hG.few; omega
  have hA0 : A0 = none → H.length = 0 := fun e => by
    subst e
    cases hq : H.length with
    | zero => rfl
    | succ k => obtain ⟨b', off, q, _⟩ := hS.2.2 (by omega); cases q
  have cc0 : w.cell? ⟨g, 0, none⟩ = some (.int .i64 mo) := hT.blk.cellv 0 rfl
  have cc1 : w.cell? ⟨g, 1, none⟩ = some (.int .i64 no) := hT.blk.cellv 1 rfl
  have cc2 : w.cell? ⟨g, 2, none⟩ = some (.int .i64 co) := hT.blk.cellv 2 rfl
  have cc3 : w.cell? ⟨g, 3, none⟩ = some (.map (some b)) := hT.blk.cellv 3 rfl
  have cc4 : w.cell? ⟨g, 4, none⟩ = some (.slice A0 H.length c) := hT.blk.cellv 4 rfl
  have ltg := hT.ltg
  have hmade := hT
  obtain ⟨n, hn⟩ : ∃ n, n = H.length := ⟨_, rfl⟩
  rw [← hn] at cc4 hS0 hHl hA0
  replace hn := Lib.hid hn
  clear hS
  go_enter Try.func65, Try.ntmps65
  go_upto_region 4 with (go_at_call 134; refine (madeT_in hmade).mono ?_; rintro e w' ⟨rfl, rfl⟩)
  have hB1 := (Below.refl w.heap.size w).alloc (Nat.le_refl _) (.cells #[.int .i64 mo, .int .i64 no, .int .i64 co, .map (some b), .slice A0 n c] 101)
  have hq1 := Blk.new w 101 #[.int .i64 mo, .int .i64 no, .int .i64 co, .map (some b), .slice A0 n c]
  have hT1 := hT.nx hB1
  have hS1 := hS0.below hB1 fun b q => q
  clear cc0 cc1 cc2 cc3 cc4 hT hS0 hmade
  have hz1 := hB1.size
  have hgx : g ≠ w.heap.size := by omega
  generalize w.alloc (.cells #[.int .i64 mo, .int .i64 no, .int .i64 co, .map (some b), .slice A0 n c] 101) = w1 at *
  have c3 : w1.cell? ⟨g, 3, none⟩ = some (.map (some b)) := hT1.blk.cellv 3 rfl
  have c4 : w1.cell? ⟨g, 4, none⟩ = some (.slice A0 n c) := by rw [hn.out]; exact hT1.blk.cellv 4 rfl
  have ltg1 := hT1.ltg
  have ltx1 := hq1.lt
  -- region 4: 0 1 2 3 4C 5 6 7 8 9C 10 11M 12 13M
  try refine wp_region_noPanic ?_
  have hs1r : (fun w' => Chg w1 w' (fun k => k = w.heap.size)) w1.drew := Chg.of_below (Below.refl _ _).drew
  refine wp_region_held_drew (S := fun w' => Chg w1 w' (fun k => k = w.heap.size)) (by kernel_rfl) hs1r (fun _ => ?_)
  (refine held_takeA 0 (by rfl) ?_ (by kernel_rfl) (fun _ _ _ h => h) hs1r ?_ ?_; rotate_left; (focus (intro wq hSw; have hrd := hSw; have hrd2 : ∀ b' o, b' < w1.heap.size → b' ≠ w.heap.size → wq.cell? ⟨b', o, none⟩ = w1.cell? ⟨b', o, none⟩ := (fun b' o h hx => Chg.cell hSw (p := ⟨b', o, none⟩) h hx); go_simp; try with_reducible rfl; done)); try simp only [Act.put, List.setIfInBounds_toArray, List.set_cons_zero, List.set_cons_succ])
  (refine held_takeA 1 (by rfl) ?_ (by kernel_rfl) (fun _ _ _ h => h) hs1r ?_ ?_; rotate_left; (focus (intro wq hSw; have hrd := hSw; have hrd2 : ∀ b' o, b' < w1.heap.size → b' ≠ w.heap.size → wq.cell? ⟨b', o, none⟩ = w1.cell? ⟨b', o, none⟩ := (fun b' o h hx => Chg.cell hSw (p := ⟨b', o, none⟩) h hx); go_simp; try with_reducible rfl; done)); try simp only [Act.put, List.setIfInBounds_toArray, List.set_cons_zero, List.set_cons_succ])
  (refine held_takeA 2 (by rfl) ?_ (by kernel_rfl) (fun _ _ _ h => h) hs1r ?_ ?_; rotate_left; (focus (intro wq hSw; have hrd := hSw; have hrd2 : ∀ b' o, b' < w1.heap.size → b' ≠ w.heap.size → wq.cell? ⟨b', o, none⟩ = w1.cell? ⟨b', o, none⟩ := (fun b' o h hx => Chg.cell hSw (p := ⟨b', o, none⟩) h hx); go_simp; try with_reducible rfl; done)); try simp only [Act.put, List.setIfInBounds_toArray, List.set_cons_zero, List.set_cons_succ])
  (refine held_takeA 3 (by rfl) ?_ (by kernel_rfl) (fun _ _ _ h => h) hs1r ?_ ?_; rotate_left; (focus (intro wq hSw; have hrd := hSw; have hrd2 : ∀ b' o, b' < w1.heap.size → b' ≠ w.heap.size → wq.cell? ⟨b', o, none⟩ = w1.cell? ⟨b', o, none⟩ := (fun b' o h hx => Chg.cell hSw (p := ⟨b', o, none⟩) h hx); go_simp; try with_reducible rfl; done)); try simp only [Act.put, List.setIfInBounds_toArray, List.set_cons_zero, List.set_cons_succ])
  (refine held_takeA 5 (by rfl) ?_ (by kernel_rfl) (fun _ _ _ h => h) hs1r ?_ ?_; rotate_left; (focus (intro wq hSw; have hrd := hSw; have hrd2 : ∀ b' o, b' < w1.heap.size → b' ≠ w.heap.size → wq.cell? ⟨b', o, none⟩ = w1.cell? ⟨b', o, none⟩ := (fun b' o h hx => Chg.cell hSw (p := ⟨b', o, none⟩) h hx); go_simp; try with_reducible rfl; done)); try simp only [Act.put, List.setIfInBounds_toArray, List.set_cons_zero, List.set_cons_succ])
  (refine held_takeA 6 (by rfl) ?_ (by kernel_rfl) (fun _ _ _ h => h) hs1r ?_ ?_; rotate_left; (focus (intro wq hSw; have hrd := hSw; have hrd2 : ∀ b' o, b' < w1.heap.size → b' ≠ w.heap.size → wq.cell? ⟨b', o, none⟩ = w1.cell? ⟨b', o, none⟩ := (fun b' o h hx => Chg.cell hSw (p := ⟨b', o, none⟩) h hx); go_simp; try with_reducible rfl; done)); try simp only [Act.put, List.setIfInBounds_toArray, List.set_cons_zero, List.set_cons_succ])
  (refine held_takeA 7 (by rfl) ?_ (by kernel_rfl) (fun _ _ _ h => h) hs1r ?_ ?_; rotate_left; (focus (intro wq hSw; have hrd := hSw; have hrd2 : ∀ b' o, b' < w1.heap.size → b' ≠ w.heap.size → wq.cell? ⟨b', o, none⟩ = w1.cell? ⟨b', o, none⟩ := (fun b' o h hx => Chg.cell hSw (p := ⟨b', o, none⟩) h hx); go_simp; try with_reducible rfl; done)); try simp only [Act.put, List.setIfInBounds_toArray, List.set_cons_zero, List.set_cons_succ])
  (refine held_takeA 8 (by rfl) ?_ (by kernel_rfl) (fun _ _ _ h => h) hs1r ?_ ?_; rotate_left; (focus (intro wq hSw; have hrd := hSw; have hrd2 : ∀ b' o, b' < w1.heap.size → b' ≠ w.heap.size → wq.cell? ⟨b', o, none⟩ = w1.cell? ⟨b', o, none⟩ := (fun b' o h hx => Chg.cell hSw (p := ⟨b', o, none⟩) h hx); go_simp; try with_reducible rfl; done)); try simp only [Act.put, List.setIfInBounds_toArray, List.set_cons_zero, List.set_cons_succ])
  refine held_callA 4 (by rfl) (by kernel_rfl) (by rfl) (fun KQ hKQ => ?_)
  go_simp
  have hE1 : Ent Try.prog 3 w1.drew b (A.map sloE) := hT1.ent.drew
  refine (cloneT_any w1.drew b (A.map sloE) hE1).mono ?_
  rintro e w3 ⟨rfl, hE3, hB3⟩
  have hC3 : Chg w1 w3 (fun k => k = w.heap.size) := Chg.of_below ((Below.refl w1.heap.size w1).drew.trans hB3)
  have hz3 := hC3.size
  have hS3 := (hS1.below (Below.refl w.heap.size w1).drew fun b q => q).below (hB3.mono (show w1.heap.size ≤ w1.drew.heap.size from Nat.le_refl _)) (fun b q => (Nat.lt_of_lt_of_le q hz1))
  have hlm : w1.heap.size < w3.heap.size := hE3.lt
  have hs2r := hC3
  refine hKQ.out _ _ hs2r ?_
  clear hKQ KQ
  try simp only [Act.put, List.setIfInBounds_toArray, List.set_cons_zero, List.set_cons_succ]
  refine held_callA 9 (by rfl) (by kernel_rfl) (by rfl) (fun KQ hKQ => ?_)
  go_simp
  refine (cloneH_any w3 A0 n c H (hS3.more fun b q => by omega) hHl hA0).mono ?_
  rintro e w4 ⟨v4, rfl, hv4, hB4⟩
  obtain ⟨A4, k4, e4, -⟩ := hv4.1.any
  subst e4
  have hC4 := hC3.trans (Chg.of_below (X := fun _ => False) hB4) (fun _ _ q => q.elim)
  have hC4b : Chg w1 w4 (fun _ => False) := ((Chg.of_below ((Below.refl w1.heap.size w1).drew.trans hB3)).trans (Chg.of_below (X := fun _ => False) hB4) (fun _ _ q => q))
  have hq4 := hC4b.blk hq1 (fun q => q)
  have hs3r := hC4
  refine hKQ.out _ _ hs3r ?_
  clear hKQ KQ
  try simp only [Act.put, List.setIfInBounds_toArray, List.set_cons_zero, List.set_cons_succ]
  (refine held_takeA 10 (by rfl) ?_ (by kernel_rfl) (fun _ _ _ h => h) hs3r ?_ ?_; rotate_left; (focus (intro wq hSw; have hrd := hSw; have hrd2 : ∀ b' o, b' < w1.heap.size → b' ≠ w.heap.size → wq.cell? ⟨b', o, none⟩ = w1.cell? ⟨b', o, none⟩ := (fun b' o h hx => Chg.cell hSw (p := ⟨b', o, none⟩) h hx); go_simp; try with_reducible rfl; done)); try simp only [Act.put, List.setIfInBounds_toArray, List.set_cons_zero, List.set_cons_succ])
  have g4 := hq4.frozen 3
  have p4 : w4.cell? ⟨w.heap.size, 3, none⟩ = some (.map (some b)) := hq4.cellv 3 rfl
  have l4 := hq4.lt
  obtain ⟨hq5, hg5⟩ := blk_store hq4 3 (.map (some w1.heap.size))
  replace hq5 : Blk (w4.setCell ⟨w.heap.size, 3, none⟩ (.map (some w1.heap.size))) w.heap.size 101 #[.int .i64 mo, .int .i64 no, .int .i64 co, .map (some w1.heap.size), .slice A0 n c] := hq5
  have hC45 : Chg w4 (w4.setCell ⟨w.heap.size, 3, none⟩ (.map (some w1.heap.size))) (fun k => k = w.heap.size) := Chg.of_grown hg5 rfl
  clear hg5
  refine held_callA 11 (by rfl) (by kernel_rfl) (by rfl) (fun KQ hKQ => ?_)
  go_simp
  generalize w4.setCell ⟨w.heap.size, 3, none⟩ (.map (some w1.heap.size)) = w5 at *
  have hC5 := hC4.trans hC45 (fun _ _ q => q)
  have hs4r := hC5
  refine hKQ.out _ _ hs4r ?_
  clear hKQ KQ
  try simp only [Act.put]
  (refine held_takeA 12 (by rfl) ?_ (by kernel_rfl) (fun _ _ _ h => h) hs4r ?_ ?_; rotate_left; (focus (intro wq hSw; have hrd := hSw; have hrd2 : ∀ b' o, b' < w1.heap.size → b' ≠ w.heap.size → wq.cell? ⟨b', o, none⟩ = w1.cell? ⟨b', o, none⟩ := (fun b' o h hx => Chg.cell hSw (p := ⟨b', o, none⟩) h hx); go_simp; try with_reducible rfl; done)); try simp only [Act.put, List.setIfInBounds_toArray, List.set_cons_zero, List.set_cons_succ])
  have g5 := hq5.frozen 4
  have p5 : w5.cell? ⟨w.heap.size, 4, none⟩ = some (.slice A0 n c) := hq5.cellv 4 rfl
  have l5 := hq5.lt
  obtain ⟨hq6, hg6⟩ := blk_store hq5 4 (.slice A4 H.length k4)
  replace hq6 : Blk (w5.setCell ⟨w.heap.size, 4, none⟩ (.slice A4 H.length k4)) w.heap.size 101 #[.int .i64 mo, .int .i64 no, .int .i64 co, .map (some w1.heap.size), .slice A4 H.length k4] := hq6
  have hC56 : Chg w5 (w5.setCell ⟨w.heap.size, 4, none⟩ (.slice A4 H.length k4)) (fun k => k = w.heap.size) := Chg.of_grown hg6 rfl
  clear hg6
  refine held_callA 13 (by rfl) (by kernel_rfl) (by rfl) (fun KQ hKQ => ?_)
  go_simp
  generalize w5.setCell ⟨w.heap.size, 4, none⟩ (.slice A4 H.length k4) = w6 at *
  have hC6 := hC5.trans hC56 (fun _ _ q => q)
  have hs5r := hC6
  refine hKQ.out _ _ hs5r ?_
  clear hKQ KQ
  try simp only [Act.put]
  refine wpAnyH_done (by kernel_rfl) ?_ _
  try refine NoPanic.normal ?_
  go_wp2_with fail
  go_ret
  have hz6 := hC6.size
  have hz45 := hC45.size
  have hz56 := hC56.size
  have hz34 := hB4.size
  have hvl := hv4.1.lt
  have hC46 := hC45.trans hC56 (fun _ _ q => q)
  have hE6 : Ent Try.prog 3 w6 w1.heap.size (A.map sloE) := hC46.ent (hE3.below hB4 hlm) (show ¬ w1.heap.size = w.heap.size by omega)
  have hv6 : Rows sloK w6 0 0 198 (.slice A4 H.length k4) H := (show Rows sloK w6 w3.heap.size w3.heap.size 198 (.slice A4 H.length k4) H from ⟨hC46.own hv4.1 (fun k q e => by have := (hvl k q).1; omega), fun _ _ => trivial⟩).less (Nat.zero_le _) (Nat.zero_le _)
  have hB6 : Below w.heap.size w w6 := below_chg hB1 hC6 (fun k q => by omega) (Nat.le_refl _)
  have hT6 : TabV w6 w.heap.size w1.heap.size mo no co (.slice A4 H.length k4) A H := ⟨hq6, hE6, hv6, fun e => by have := (hvl _ e).1; omega, fun e => by have := (hvl _ e).1; omega⟩
  refine ⟨_, rfl, fun k => k = w.heap.size ∨ k = w1.heap.size ∨ (Value.slice A4 H.length k4).ownBlock = some k, ⟨_, _, A, H, hT6, hG, fun _ q => q, ?_⟩, ?_, hB6⟩
  · rintro k (q | q | q)
    · omega
    · omega
    · have := (hvl k q).2; omega
  · rintro k (q | q | q)
    · omega
    · omega
    · have := (hvl k q).1; omega
end Go.Proofs.Ytejgekoinbdhjaa
