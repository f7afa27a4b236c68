/- policy: PolicyFallback. -/
import Derived.Test.YthllemlkdflhkaaPolE
import Derived.Test.YthllemlkdflhkaaOpen
namespace Go.Proofs.Ythllemlkdflhkaa
set_option linter.unusedVariables false
open Go.RowKit

theorem good_parts {s h m p b : Int} (hg : goodV s h m p b = true) : (1 ≤ s ∧ s ≤ 65535) ∧ hopV h = true ∧ (0 ≤ m ∧ m ≤ 4294967295) ∧ (0 ≤ b ∧ b ≤ 4294967295) ∧ (0 ≤ p ∧ p ≤ 15) := by
  simp only [goodV, Bool.and_eq_true, inV_iff] at hg
  exact ⟨hg.1.1.1.1, hg.1.1.1.2, hg.1.1.2, hg.1.2, hg.2⟩
theorem worse_eq (m b : Int) (k : Nat) : betterV 0 1 (medV m true) 0 (k + 1) (medV b true) = (decide ((0 : Int) < (k : Int)) || decide (m < b)) := by
  rw [Bool.eq_iff_iff, Bool.or_eq_true, decide_eq_true_iff, decide_eq_true_iff]
  unfold betterV medV
  simp
  omega

set_option maxRecDepth 100000 in
set_option maxHeartbeats 4000000 in
theorem fallback_bad (s h m p b : Int) (w : World) (h0 : 0 ≤ h) (h1 : h ≤ 4294967295) (hg : goodV s h m p b = false) :
    Calls Try.prog 4 #[.agg #[.int .i64 s, .int .u32 h, .int .i64 m, .int .i64 p, .int .i64 b]] w fun e w' => e = .returned (.bool true) ∧ Below w.heap.size w w' := by
  have q := Blk.new w 32 (polCs s h m p b)
  have hB := (Below.refl w.heap.size w).alloc (Nat.le_refl _) (.cells (polCs s h m p b) 32)
  have c0 := q.cellv 0 (v := .int .i64 s) rfl
  have c1 := q.cellv 1 (v := .int .u32 h) rfl
  have c2 := q.cellv 2 (v := .int .i64 m) rfl
  have c3 := q.cellv 3 (v := .int .i64 p) rfl
  have c4 := q.cellv 4 (v := .int .i64 b) rfl
  go_enter Try.func4, Try.ntmps4
  go_wp2_with fail
  have hbad1 := fun w => attrs_bad s h m p b 1 w h0 h1 hg
  have hbad2 := fun w => attrs_bad s h m p b 2 w h0 h1 hg
  simp only [attrZ] at hbad1 hbad2
  refine (hbad1 _).mono ?_
  rintro e w1 ⟨rfl, hx⟩
  clear c0 c1 c2 c3 c4
  replace q := (q.below hx q.lt).alloc (.cells #[.int .i64 0, .slice none 0 0, .int .u32 0, .int .i64 0, .bool false] 25)
  replace hB := (hB.trans (hx.mono hB.size)).alloc (hB.trans (hx.mono hB.size)).size (.cells #[.int .i64 0, .slice none 0 0, .int .u32 0, .int .i64 0, .bool false] 25)
  clear hx
  have c0 := q.cellv 0 (v := .int .i64 s) rfl
  have c1 := q.cellv 1 (v := .int .u32 h) rfl
  have c2 := q.cellv 2 (v := .int .i64 m) rfl
  have c3 := q.cellv 3 (v := .int .i64 p) rfl
  have c4 := q.cellv 4 (v := .int .i64 b) rfl
  go_wp2_with fail
  refine (hbad2 _).mono ?_
  rintro e w2 ⟨rfl, hx⟩
  clear c0 c1 c2 c3 c4
  replace q := (q.below hx q.lt).alloc (.cells #[.int .i64 0, .slice none 0 0, .int .u32 0, .int .i64 0, .bool false] 25)
  replace hB := (hB.trans (hx.mono hB.size)).alloc (hB.trans (hx.mono hB.size)).size (.cells #[.int .i64 0, .slice none 0 0, .int .u32 0, .int .i64 0, .bool false] 25)
  clear hx
  have c0 := q.cellv 0 (v := .int .i64 s) rfl
  have c1 := q.cellv 1 (v := .int .u32 h) rfl
  have c2 := q.cellv 2 (v := .int .i64 m) rfl
  have c3 := q.cellv 3 (v := .int .i64 p) rfl
  have c4 := q.cellv 4 (v := .int .i64 b) rfl
  go_wp2_with fail
  refine (good_any s h m p b _ h0 h1).mono ?_
  rintro e w3 ⟨rfl, hx⟩
  replace hB := hB.trans (hx.mono hB.size)
  rw [hg]
  go_wp2_with fail
  refine (lives_any _).mono ?_
  rintro e w4 ⟨rfl, hx⟩
  go_wp2_with fail
  go_ret
  exact ⟨rfl, hB.trans (hx.mono hB.size)⟩

set_option maxRecDepth 100000 in
set_option maxHeartbeats 4000000 in
theorem fallback_good (s h m b : Int) (k : Nat) (w : World) (h0 : 0 ≤ h) (h1 : h ≤ 4294967295) (hg : goodV s h m k b = true) :
    Calls Try.prog 4 #[.agg #[.int .i64 s, .int .u32 h, .int .i64 m, .int .i64 k, .int .i64 b]] w fun e w' => e = .returned (.bool true) ∧ Below w.heap.size w w' := by
  obtain ⟨hs, hh, hm, hb, hk⟩ := good_parts hg
  have hk15 : k ≤ 15 := by omega
  have q := Blk.new w 32 (polCs s h m k b)
  have hB := (Below.refl w.heap.size w).alloc (Nat.le_refl _) (.cells (polCs s h m k b) 32)
  have c0 := q.cellv 0 (v := .int .i64 s) rfl
  have c1 := q.cellv 1 (v := .int .u32 h) rfl
  have c2 := q.cellv 2 (v := .int .i64 m) rfl
  have c3 := q.cellv 3 (v := .int .i64 (k : Int)) rfl
  have c4 := q.cellv 4 (v := .int .i64 b) rfl
  go_enter Try.func4, Try.ntmps4
  go_wp2_with fail
  refine (attrs_norm s h m k b _ h0 h1 hg).mono ?_
  rintro e w1 ⟨g1, rfl, hg1, qs, hx⟩
  clear c0 c1 c2 c3 c4
  replace q := (q.below hx q.lt).alloc (.cells #[.int .i64 0, .slice (some ⟨g1, 0, none⟩) 1 1, .int .u32 h, .int .i64 m, .bool true] 25)
  replace hB := (hB.trans (hx.mono hB.size)).alloc (hB.trans (hx.mono hB.size)).size (.cells #[.int .i64 0, .slice (some ⟨g1, 0, none⟩) 1 1, .int .u32 h, .int .i64 m, .bool true] 25)
  have qa := Blk.new w1 25 #[.int .i64 0, .slice (some ⟨g1, 0, none⟩) 1 1, .int .u32 h, .int .i64 m, .bool true]
  replace qs := qs.alloc (.cells #[.int .i64 0, .slice (some ⟨g1, 0, none⟩) 1 1, .int .u32 h, .int .i64 m, .bool true] 25)
  clear hx
  have c0 := q.cellv 0 (v := .int .i64 s) rfl
  have c1 := q.cellv 1 (v := .int .u32 h) rfl
  have c2 := q.cellv 2 (v := .int .i64 m) rfl
  have c3 := q.cellv 3 (v := .int .i64 (k : Int)) rfl
  have c4 := q.cellv 4 (v := .int .i64 b) rfl
  go_wp2_with fail
  refine (attrs_fall s h m b k _ hk15 hs (fun w => by have := good_any s h m k b w h0 h1; rwa [hg] at this)).mono ?_
  rintro e w2 ⟨v, B2, rfl, hB2, ov, hx⟩
  obtain ⟨g2, cv, rfl, hg2, hgs2, hcv, _⟩ := ov.form (by omega)
  clear c0 c1 c2 c3 c4
  replace q := (q.below hx q.lt).alloc (.cells #[.int .i64 0, .slice (some ⟨g2, 0, none⟩) (k + 1) cv, .int .u32 h, .int .i64 b, .bool true] 25)
  replace qa := (qa.below hx qa.lt).alloc (.cells #[.int .i64 0, .slice (some ⟨g2, 0, none⟩) (k + 1) cv, .int .u32 h, .int .i64 b, .bool true] 25)
  replace qs := (qs.below hx qs.lt).alloc (.cells #[.int .i64 0, .slice (some ⟨g2, 0, none⟩) (k + 1) cv, .int .u32 h, .int .i64 b, .bool true] 25)
  replace hB := (hB.trans (hx.mono hB.size)).alloc (hB.trans (hx.mono hB.size)).size (.cells #[.int .i64 0, .slice (some ⟨g2, 0, none⟩) (k + 1) cv, .int .u32 h, .int .i64 b, .bool true] 25)
  replace ov := ov.alloc (.cells #[.int .i64 0, .slice (some ⟨g2, 0, none⟩) (k + 1) cv, .int .u32 h, .int .i64 b, .bool true] 25)
  have qb := Blk.new w2 25 #[.int .i64 0, .slice (some ⟨g2, 0, none⟩) (k + 1) cv, .int .u32 h, .int .i64 b, .bool true]
  clear hx
  have c0 := q.cellv 0 (v := .int .i64 s) rfl
  have c1 := q.cellv 1 (v := .int .u32 h) rfl
  have c2 := q.cellv 2 (v := .int .i64 m) rfl
  have c3 := q.cellv 3 (v := .int .i64 (k : Int)) rfl
  have c4 := q.cellv 4 (v := .int .i64 b) rfl
  go_wp2_with fail
  refine (good_any s h m k b _ h0 h1).mono ?_
  rintro e w3 ⟨rfl, hx⟩
  rw [hg]
  clear c0 c1 c2 c3 c4
  replace q := q.below hx q.lt
  replace qa := qa.below hx qa.lt
  replace qb := qb.below hx qb.lt
  replace qs := qs.below hx qs.lt
  replace ov := ov.below hx
  replace hB := hB.trans (hx.mono hB.size)
  clear hx
  have c0 := q.cellv 0 (v := .int .i64 s) rfl
  have c1 := q.cellv 1 (v := .int .u32 h) rfl
  have c2 := q.cellv 2 (v := .int .i64 m) rfl
  have c3 := q.cellv 3 (v := .int .i64 (k : Int)) rfl
  have c4 := q.cellv 4 (v := .int .i64 b) rfl
  have a0 := qa.cellv 0 (v := .int .i64 0) rfl
  have a1 := qa.cellv 1 (v := .slice (some ⟨g1, 0, none⟩) 1 1) rfl
  have a2 := qa.cellv 2 (v := .int .u32 h) rfl
  have a3 := qa.cellv 3 (v := .int .i64 m) rfl
  have a4 := qa.cellv 4 (v := .bool true) rfl
  have b0 := qb.cellv 0 (v := .int .i64 0) rfl
  have b1 := qb.cellv 1 (v := .slice (some ⟨g2, 0, none⟩) (k + 1) cv) rfl
  have b2 := qb.cellv 2 (v := .int .u32 h) rfl
  have b3 := qb.cellv 3 (v := .int .i64 b) rfl
  have b4 := qb.cellv 4 (v := .bool true) rfl
  have hcs : ∀ j, j < 1 → w3.cell? ⟨g1, j, none⟩ = some (.int .i64 s) := fun j hj => match j, hj with
    | 0, _ => qs.cellv 0 rfl
  have hcv2 : ∀ j, j < k + 1 → w3.cell? ⟨g2, j, none⟩ = some (.int .i64 s) := fun j hj => (ov.cell j (by omega)).trans (by rw [List.getElem?_replicate, if_pos hj])
  have hw1 := attrGood_yes w3 g1 1 1 s h m h0 h1 hh hm hs (by omega) qs.lt hcs
  have hgl2 : g2 < w3.heap.size := (ov.lt g2 rfl).2
  by_cases hk0 : 0 < k
  · have hki : (0 : Int) < (k : Int) := by omega
    have hwv : betterV 0 1 (medV m true) 0 (k + 1) (medV b true) = true := by
      rw [worse_eq]; simp; omega
    go_wp2_with fail
    refine hw1.mono ?_
    rintro e w4 ⟨rfl, hx⟩
    clear c0 c1 c2 c3 c4 a0 a1 a2 a3 a4 b0 b1 b2 b3 b4
    replace q := q.below hx q.lt
    replace qa := qa.below hx qa.lt
    replace qb := qb.below hx qb.lt
    replace ov := ov.below hx
    replace hB := hB.trans (hx.mono hB.size)
    have c0 := q.cellv 0 (v := .int .i64 s) rfl
    have c1 := q.cellv 1 (v := .int .u32 h) rfl
    have c2 := q.cellv 2 (v := .int .i64 m) rfl
    have c3 := q.cellv 3 (v := .int .i64 (k : Int)) rfl
    have c4 := q.cellv 4 (v := .int .i64 b) rfl
    have a0 := qa.cellv 0 (v := .int .i64 0) rfl
    have a1 := qa.cellv 1 (v := .slice (some ⟨g1, 0, none⟩) 1 1) rfl
    have a2 := qa.cellv 2 (v := .int .u32 h) rfl
    have a3 := qa.cellv 3 (v := .int .i64 m) rfl
    have a4 := qa.cellv 4 (v := .bool true) rfl
    have b0 := qb.cellv 0 (v := .int .i64 0) rfl
    have b1 := qb.cellv 1 (v := .slice (some ⟨g2, 0, none⟩) (k + 1) cv) rfl
    have b2 := qb.cellv 2 (v := .int .u32 h) rfl
    have b3 := qb.cellv 3 (v := .int .i64 b) rfl
    have b4 := qb.cellv 4 (v := .bool true) rfl
    have hgl4 : g2 < w4.heap.size := (ov.lt g2 rfl).2
    have hcv4 : ∀ j, j < k + 1 → w4.cell? ⟨g2, j, none⟩ = some (.int .i64 s) := fun j hj => (ov.cell j (by omega)).trans (by rw [List.getElem?_replicate, if_pos hj])
    have hw2 := attrGood_yes w4 g2 (k + 1) cv s h b h0 h1 hh hb hs (by omega) hgl4 hcv4
    clear hx
    go_wp2_with fail
    refine hw2.mono ?_
    rintro e w5 ⟨rfl, hx⟩
    clear c0 c1 c2 c3 c4 a0 a1 a2 a3 a4 b0 b1 b2 b3 b4
    replace q := q.below hx q.lt
    replace qa := qa.below hx qa.lt
    replace qb := qb.below hx qb.lt
    replace ov := ov.below hx
    replace hB := hB.trans (hx.mono hB.size)
    have c0 := q.cellv 0 (v := .int .i64 s) rfl
    have c1 := q.cellv 1 (v := .int .u32 h) rfl
    have c2 := q.cellv 2 (v := .int .i64 m) rfl
    have c3 := q.cellv 3 (v := .int .i64 (k : Int)) rfl
    have c4 := q.cellv 4 (v := .int .i64 b) rfl
    have a0 := qa.cellv 0 (v := .int .i64 0) rfl
    have a1 := qa.cellv 1 (v := .slice (some ⟨g1, 0, none⟩) 1 1) rfl
    have a2 := qa.cellv 2 (v := .int .u32 h) rfl
    have a3 := qa.cellv 3 (v := .int .i64 m) rfl
    have a4 := qa.cellv 4 (v := .bool true) rfl
    have b0 := qb.cellv 0 (v := .int .i64 0) rfl
    have b1 := qb.cellv 1 (v := .slice (some ⟨g2, 0, none⟩) (k + 1) cv) rfl
    have b2 := qb.cellv 2 (v := .int .u32 h) rfl
    have b3 := qb.cellv 3 (v := .int .i64 b) rfl
    have b4 := qb.cellv 4 (v := .bool true) rfl
    clear hx
    go_wp2_with fail
    refine (better_any _ _ _ _ _ _ _ _ _ _ _ _ _ _ _ (by omega) (by omega)).mono ?_
    rintro e w6 ⟨rfl, hx⟩
    clear c0 c1 c2 c3 c4 a0 a1 a2 a3 a4 b0 b1 b2 b3 b4
    replace q := q.below hx q.lt
    replace qa := qa.below hx qa.lt
    replace qb := qb.below hx qb.lt
    replace ov := ov.below hx
    replace hB := hB.trans (hx.mono hB.size)
    have c0 := q.cellv 0 (v := .int .i64 s) rfl
    have c1 := q.cellv 1 (v := .int .u32 h) rfl
    have c2 := q.cellv 2 (v := .int .i64 m) rfl
    have c3 := q.cellv 3 (v := .int .i64 (k : Int)) rfl
    have c4 := q.cellv 4 (v := .int .i64 b) rfl
    have a0 := qa.cellv 0 (v := .int .i64 0) rfl
    have a1 := qa.cellv 1 (v := .slice (some ⟨g1, 0, none⟩) 1 1) rfl
    have a2 := qa.cellv 2 (v := .int .u32 h) rfl
    have a3 := qa.cellv 3 (v := .int .i64 m) rfl
    have a4 := qa.cellv 4 (v := .bool true) rfl
    have b0 := qb.cellv 0 (v := .int .i64 0) rfl
    have b1 := qb.cellv 1 (v := .slice (some ⟨g2, 0, none⟩) (k + 1) cv) rfl
    have b2 := qb.cellv 2 (v := .int .u32 h) rfl
    have b3 := qb.cellv 3 (v := .int .i64 b) rfl
    have b4 := qb.cellv 4 (v := .bool true) rfl
    clear hx
    rw [hwv]
    go_wp2_with fail
    refine (lives_any _).mono ?_
    rintro e w7 ⟨rfl, hx⟩
    go_wp2_with fail
    go_ret
    exact ⟨rfl, hB.trans (hx.mono hB.size)⟩
  · have hki : ¬ (0 : Int) < (k : Int) := by omega
    by_cases hmb : m < b
    · have hz : True := trivial
      have hwv : betterV 0 1 (medV m true) 0 (k + 1) (medV b true) = true := by
        rw [worse_eq]; simp; omega
      go_wp2_with fail
      refine hw1.mono ?_
      rintro e w4 ⟨rfl, hx⟩
      clear c0 c1 c2 c3 c4 a0 a1 a2 a3 a4 b0 b1 b2 b3 b4
      replace q := q.below hx q.lt
      replace qa := qa.below hx qa.lt
      replace qb := qb.below hx qb.lt
      replace ov := ov.below hx
      replace hB := hB.trans (hx.mono hB.size)
      have c0 := q.cellv 0 (v := .int .i64 s) rfl
      have c1 := q.cellv 1 (v := .int .u32 h) rfl
      have c2 := q.cellv 2 (v := .int .i64 m) rfl
      have c3 := q.cellv 3 (v := .int .i64 (k : Int)) rfl
      have c4 := q.cellv 4 (v := .int .i64 b) rfl
      have a0 := qa.cellv 0 (v := .int .i64 0) rfl
      have a1 := qa.cellv 1 (v := .slice (some ⟨g1, 0, none⟩) 1 1) rfl
      have a2 := qa.cellv 2 (v := .int .u32 h) rfl
      have a3 := qa.cellv 3 (v := .int .i64 m) rfl
      have a4 := qa.cellv 4 (v := .bool true) rfl
      have b0 := qb.cellv 0 (v := .int .i64 0) rfl
      have b1 := qb.cellv 1 (v := .slice (some ⟨g2, 0, none⟩) (k + 1) cv) rfl
      have b2 := qb.cellv 2 (v := .int .u32 h) rfl
      have b3 := qb.cellv 3 (v := .int .i64 b) rfl
      have b4 := qb.cellv 4 (v := .bool true) rfl
      have hgl4 : g2 < w4.heap.size := (ov.lt g2 rfl).2
      have hcv4 : ∀ j, j < k + 1 → w4.cell? ⟨g2, j, none⟩ = some (.int .i64 s) := fun j hj => (ov.cell j (by omega)).trans (by rw [List.getElem?_replicate, if_pos hj])
      have hw2 := attrGood_yes w4 g2 (k + 1) cv s h b h0 h1 hh hb hs (by omega) hgl4 hcv4
      clear hx
      go_wp2_with fail
      refine hw2.mono ?_
      rintro e w5 ⟨rfl, hx⟩
      clear c0 c1 c2 c3 c4 a0 a1 a2 a3 a4 b0 b1 b2 b3 b4
      replace q := q.below hx q.lt
      replace qa := qa.below hx qa.lt
      replace qb := qb.below hx qb.lt
      replace ov := ov.below hx
      replace hB := hB.trans (hx.mono hB.size)
      have c0 := q.cellv 0 (v := .int .i64 s) rfl
      have c1 := q.cellv 1 (v := .int .u32 h) rfl
      have c2 := q.cellv 2 (v := .int .i64 m) rfl
      have c3 := q.cellv 3 (v := .int .i64 (k : Int)) rfl
      have c4 := q.cellv 4 (v := .int .i64 b) rfl
      have a0 := qa.cellv 0 (v := .int .i64 0) rfl
      have a1 := qa.cellv 1 (v := .slice (some ⟨g1, 0, none⟩) 1 1) rfl
      have a2 := qa.cellv 2 (v := .int .u32 h) rfl
      have a3 := qa.cellv 3 (v := .int .i64 m) rfl
      have a4 := qa.cellv 4 (v := .bool true) rfl
      have b0 := qb.cellv 0 (v := .int .i64 0) rfl
      have b1 := qb.cellv 1 (v := .slice (some ⟨g2, 0, none⟩) (k + 1) cv) rfl
      have b2 := qb.cellv 2 (v := .int .u32 h) rfl
      have b3 := qb.cellv 3 (v := .int .i64 b) rfl
      have b4 := qb.cellv 4 (v := .bool true) rfl
      clear hx
      go_wp2_with fail
      refine (better_any _ _ _ _ _ _ _ _ _ _ _ _ _ _ _ (by omega) (by omega)).mono ?_
      rintro e w6 ⟨rfl, hx⟩
      clear c0 c1 c2 c3 c4 a0 a1 a2 a3 a4 b0 b1 b2 b3 b4
      replace q := q.below hx q.lt
      replace qa := qa.below hx qa.lt
      replace qb := qb.below hx qb.lt
      replace ov := ov.below hx
      replace hB := hB.trans (hx.mono hB.size)
      have c0 := q.cellv 0 (v := .int .i64 s) rfl
      have c1 := q.cellv 1 (v := .int .u32 h) rfl
      have c2 := q.cellv 2 (v := .int .i64 m) rfl
      have c3 := q.cellv 3 (v := .int .i64 (k : Int)) rfl
      have c4 := q.cellv 4 (v := .int .i64 b) rfl
      have a0 := qa.cellv 0 (v := .int .i64 0) rfl
      have a1 := qa.cellv 1 (v := .slice (some ⟨g1, 0, none⟩) 1 1) rfl
      have a2 := qa.cellv 2 (v := .int .u32 h) rfl
      have a3 := qa.cellv 3 (v := .int .i64 m) rfl
      have a4 := qa.cellv 4 (v := .bool true) rfl
      have b0 := qb.cellv 0 (v := .int .i64 0) rfl
      have b1 := qb.cellv 1 (v := .slice (some ⟨g2, 0, none⟩) (k + 1) cv) rfl
      have b2 := qb.cellv 2 (v := .int .u32 h) rfl
      have b3 := qb.cellv 3 (v := .int .i64 b) rfl
      have b4 := qb.cellv 4 (v := .bool true) rfl
      clear hx
      rw [hwv]
      go_wp2_with fail
      refine (lives_any _).mono ?_
      rintro e w7 ⟨rfl, hx⟩
      go_wp2_with fail
      go_ret
      exact ⟨rfl, hB.trans (hx.mono hB.size)⟩
    · have hz : True := trivial
      have hwv : betterV 0 1 (medV m true) 0 (k + 1) (medV b true) = false := by
        rw [worse_eq]; simp; omega
      go_wp2_with fail
      refine hw1.mono ?_
      rintro e w4 ⟨rfl, hx⟩
      clear c0 c1 c2 c3 c4 a0 a1 a2 a3 a4 b0 b1 b2 b3 b4
      replace q := q.below hx q.lt
      replace qa := qa.below hx qa.lt
      replace qb := qb.below hx qb.lt
      replace ov := ov.below hx
      replace hB := hB.trans (hx.mono hB.size)
      have c0 := q.cellv 0 (v := .int .i64 s) rfl
      have c1 := q.cellv 1 (v := .int .u32 h) rfl
      have c2 := q.cellv 2 (v := .int .i64 m) rfl
      have c3 := q.cellv 3 (v := .int .i64 (k : Int)) rfl
      have c4 := q.cellv 4 (v := .int .i64 b) rfl
      have a0 := qa.cellv 0 (v := .int .i64 0) rfl
      have a1 := qa.cellv 1 (v := .slice (some ⟨g1, 0, none⟩) 1 1) rfl
      have a2 := qa.cellv 2 (v := .int .u32 h) rfl
      have a3 := qa.cellv 3 (v := .int .i64 m) rfl
      have a4 := qa.cellv 4 (v := .bool true) rfl
      have b0 := qb.cellv 0 (v := .int .i64 0) rfl
      have b1 := qb.cellv 1 (v := .slice (some ⟨g2, 0, none⟩) (k + 1) cv) rfl
      have b2 := qb.cellv 2 (v := .int .u32 h) rfl
      have b3 := qb.cellv 3 (v := .int .i64 b) rfl
      have b4 := qb.cellv 4 (v := .bool true) rfl
      have hgl4 : g2 < w4.heap.size := (ov.lt g2 rfl).2
      have hcv4 : ∀ j, j < k + 1 → w4.cell? ⟨g2, j, none⟩ = some (.int .i64 s) := fun j hj => (ov.cell j (by omega)).trans (by rw [List.getElem?_replicate, if_pos hj])
      have hw2 := attrGood_yes w4 g2 (k + 1) cv s h b h0 h1 hh hb hs (by omega) hgl4 hcv4
      clear hx
      go_wp2_with fail
      refine hw2.mono ?_
      rintro e w5 ⟨rfl, hx⟩
      clear c0 c1 c2 c3 c4 a0 a1 a2 a3 a4 b0 b1 b2 b3 b4
      replace q := q.below hx q.lt
      replace qa := qa.below hx qa.lt
      replace qb := qb.below hx qb.lt
      replace ov := ov.below hx
      replace hB := hB.trans (hx.mono hB.size)
      have c0 := q.cellv 0 (v := .int .i64 s) rfl
      have c1 := q.cellv 1 (v := .int .u32 h) rfl
      have c2 := q.cellv 2 (v := .int .i64 m) rfl
      have c3 := q.cellv 3 (v := .int .i64 (k : Int)) rfl
      have c4 := q.cellv 4 (v := .int .i64 b) rfl
      have a0 := qa.cellv 0 (v := .int .i64 0) rfl
      have a1 := qa.cellv 1 (v := .slice (some ⟨g1, 0, none⟩) 1 1) rfl
      have a2 := qa.cellv 2 (v := .int .u32 h) rfl
      have a3 := qa.cellv 3 (v := .int .i64 m) rfl
      have a4 := qa.cellv 4 (v := .bool true) rfl
      have b0 := qb.cellv 0 (v := .int .i64 0) rfl
      have b1 := qb.cellv 1 (v := .slice (some ⟨g2, 0, none⟩) (k + 1) cv) rfl
      have b2 := qb.cellv 2 (v := .int .u32 h) rfl
      have b3 := qb.cellv 3 (v := .int .i64 b) rfl
      have b4 := qb.cellv 4 (v := .bool true) rfl
      clear hx
      go_wp2_with fail
      refine (better_any _ _ _ _ _ _ _ _ _ _ _ _ _ _ _ (by omega) (by omega)).mono ?_
      rintro e w6 ⟨rfl, hx⟩
      clear c0 c1 c2 c3 c4 a0 a1 a2 a3 a4 b0 b1 b2 b3 b4
      replace q := q.below hx q.lt
      replace qa := qa.below hx qa.lt
      replace qb := qb.below hx qb.lt
      replace ov := ov.below hx
      replace hB := hB.trans (hx.mono hB.size)
      have c0 := q.cellv 0 (v := .int .i64 s) rfl
      have c1 := q.cellv 1 (v := .int .u32 h) rfl
      have c2 := q.cellv 2 (v := .int .i64 m) rfl
      have c3 := q.cellv 3 (v := .int .i64 (k : Int)) rfl
      have c4 := q.cellv 4 (v := .int .i64 b) rfl
      have a0 := qa.cellv 0 (v := .int .i64 0) rfl
      have a1 := qa.cellv 1 (v := .slice (some ⟨g1, 0, none⟩) 1 1) rfl
      have a2 := qa.cellv 2 (v := .int .u32 h) rfl
      have a3 := qa.cellv 3 (v := .int .i64 m) rfl
      have a4 := qa.cellv 4 (v := .bool true) rfl
      have b0 := qb.cellv 0 (v := .int .i64 0) rfl
      have b1 := qb.cellv 1 (v := .slice (some ⟨g2, 0, none⟩) (k + 1) cv) rfl
      have b2 := qb.cellv 2 (v := .int .u32 h) rfl
      have b3 := qb.cellv 3 (v := .int .i64 b) rfl
      have b4 := qb.cellv 4 (v := .bool true) rfl
      clear hx
      rw [hwv]
      go_wp2_with fail
      refine (lives_any _).mono ?_
      rintro e w7 ⟨rfl, hx⟩
      go_wp2_with fail
      go_ret
      exact ⟨rfl, hB.trans (hx.mono hB.size)⟩
      all_goals (exfalso; omega)

theorem fallback_law (s h m p b : Int) (w : World) (_ws : (Lit.int .i64 s).wf = true) (wh : (Lit.int .u32 h).wf = true) (_wm : (Lit.int .i64 m).wf = true) (_wp : (Lit.int .i64 p).wf = true) (_wb : (Lit.int .i64 b).wf = true) :
    Calls Try.prog 4 #[.agg #[.int .i64 s, .int .u32 h, .int .i64 m, .int .i64 p, .int .i64 b]] w fun e w' => e = .returned (.bool true) ∧ Below w.heap.size w w' := by
  obtain ⟨h0, h1⟩ := bounds_u32 wh
  cases hg : goodV s h m p b with
  | false => exact fallback_bad s h m p b w h0 h1 hg
  | true =>
    obtain ⟨_, _, _, _, hp⟩ := good_parts hg
    obtain ⟨k, rfl⟩ := Int.eq_ofNat_of_zero_le hp.1
    exact fallback_good s h m b k w h0 h1 hg
end Go.Proofs.Ythllemlkdflhkaa
