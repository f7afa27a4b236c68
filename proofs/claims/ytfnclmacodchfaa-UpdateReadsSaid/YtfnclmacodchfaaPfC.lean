/- prefix: Good; the document's Mask and Good. -/
import Derived.Test.YtfnclmacodchfaaPfB
import Derived.Test.YtfnclmacodchfaaLate
namespace Go.Proofs.Ytfnclmacodchfaa
set_option linter.unusedVariables false
open Go.RowKit

/-- may it be? -/
def goodP (a n : Int) : Bool := (a == cutA a (clampN n)) && (n == (clampN n : Int))
set_option maxRecDepth 100000 in
set_option maxHeartbeats 2000000 in
theorem prefixGood_any (w : World) (a n : Int) (h0 : 0 ≤ a) (h1 : a ≤ 4294967295) :
    Calls Try.prog 26 #[.agg #[.int .u32 a, .int .i64 n]] w fun e w' => e = .returned (.bool (goodP a n)) ∧ Below w.heap.size w w' := by
  have hB := (Below.refl w.heap.size w).alloc (Nat.le_refl _) (.cells #[.int .u32 a, .int .i64 n] 61)
  have hp := Blk.new w 61 #[.int .u32 a, .int .i64 n]
  have hc := fun (w : World) => canon_any w a n h0 h1
  have hg : goodP a n = ((a == cutA a (clampN n)) && (n == (clampN n : Int))) := rfl
  generalize cutA a (clampN n) = a' at *
  generalize (clampN n : Int) = n' at *
  generalize hgg : goodP a n = gg at *
  replace hgg := Lib.hid hgg
  unfold pfC at hc
  go_enter Try.func26, Try.ntmps26
  go_upto_region 1 with (fail)
  generalize w.alloc (.cells #[.int .u32 a, .int .i64 n] 61) = w1 at *
  by_cases ea : a = a'
  · by_cases en : n = n'
    · subst ea
      subst en
      have hg2 : gg = true := by rw [hg]; simp
      subst hg2
      clear hg
      -- region 1: 0 1 2C 3 4
      try refine wp_region_noPanic ?_
      refine wp_region_lat (by kernel_rfl) ?_
      (refine lat_now 0 (by rfl) ?_ (by kernel_rfl) (fun _ _ _ h => h) ?_ ?_; rotate_left; (focus (intro wq hSw; refine exec_load_blk (x := .tmp 1) ?_ ?_ (hp.below hSw hp.lt) _ Try.underlying61 rfl (by kernel_rfl) <;> rfl)); simp only [Act.put, List.setIfInBounds_toArray, List.set_cons_zero, List.set_cons_succ])
      (refine lat_now 1 (by rfl) ?_ (by kernel_rfl) (fun _ _ _ h => h) ?_ ?_; rotate_left; (focus (intro wq hSw; refine exec_load_blk (x := .tmp 1) ?_ ?_ (hp.below hSw hp.lt) _ Try.underlying61 rfl (by kernel_rfl) <;> rfl)); simp only [Act.put, List.setIfInBounds_toArray, List.set_cons_zero, List.set_cons_succ])
      (refine lat_late 2 (by rfl) (.agg #[.int .u32 a, .int .i64 n]) (by kernel_rfl) (fun _ _ _ h => h) (fun wq hSw => ⟨_, _, ?_, hc wq⟩) ?_; focus (go_simp; try with_reducible rfl; done); try simp only [Act.put, List.setIfInBounds_toArray, List.set_cons_zero, List.set_cons_succ])
      (refine lat_now 3 (by rfl) ?_ (by kernel_rfl) (fun _ _ _ h => h) ?_ ?_; rotate_left; (focus (intro wq hSw; have hrd : ∀ b o, b < w1.heap.size → wq.cell? ⟨b, o, none⟩ = w1.cell? ⟨b, o, none⟩ := (fun b o h => Below.cell hSw (p := ⟨b, o, none⟩) h); go_simp; try with_reducible rfl; done)); try simp only [Act.put, List.setIfInBounds_toArray, List.set_cons_zero, List.set_cons_succ])
      (refine lat_now 4 (by rfl) ?_ (by kernel_rfl) (fun _ _ _ h => h) ?_ ?_; rotate_left; (focus (intro wq hSw; have hrd : ∀ b o, b < w1.heap.size → wq.cell? ⟨b, o, none⟩ = w1.cell? ⟨b, o, none⟩ := (fun b o h => Below.cell hSw (p := ⟨b, o, none⟩) h); go_simp; try with_reducible rfl; done)); try simp only [Act.put, List.setIfInBounds_toArray, List.set_cons_zero, List.set_cons_succ])
      --@a show
      refine lat_done (by kernel_rfl) (fun wz hz => ?_) _
      try refine NoPanic.normal ?_
      go_wp2_with fail
      go_ret
      exact ⟨rfl, hB.trans (hz.mono hB.size)⟩
    · have b2 : (n == n') = false := by simpa using en
      have hg2 : gg = false := by rw [hg, b2]; simp
      subst hg2
      replace hg := Lib.hid hg
      replace en := Lib.hid en
      -- region 1: 0 1 2C 3 4
      try refine wp_region_noPanic ?_
      refine wp_region_lat (by kernel_rfl) ?_
      (refine lat_now 0 (by rfl) ?_ (by kernel_rfl) (fun _ _ _ h => h) ?_ ?_; rotate_left; (focus (intro wq hSw; refine exec_load_blk (x := .tmp 1) ?_ ?_ (hp.below hSw hp.lt) _ Try.underlying61 rfl (by kernel_rfl) <;> rfl)); simp only [Act.put, List.setIfInBounds_toArray, List.set_cons_zero, List.set_cons_succ])
      (refine lat_now 1 (by rfl) ?_ (by kernel_rfl) (fun _ _ _ h => h) ?_ ?_; rotate_left; (focus (intro wq hSw; refine exec_load_blk (x := .tmp 1) ?_ ?_ (hp.below hSw hp.lt) _ Try.underlying61 rfl (by kernel_rfl) <;> rfl)); simp only [Act.put, List.setIfInBounds_toArray, List.set_cons_zero, List.set_cons_succ])
      (refine lat_late 2 (by rfl) (.agg #[.int .u32 a', .int .i64 n']) (by kernel_rfl) (fun _ _ _ h => h) (fun wq hSw => ⟨_, _, ?_, hc wq⟩) ?_; focus (go_simp; try with_reducible rfl; done); try simp only [Act.put, List.setIfInBounds_toArray, List.set_cons_zero, List.set_cons_succ])
      (refine lat_now 3 (by rfl) ?_ (by kernel_rfl) (fun _ _ _ h => h) ?_ ?_; rotate_left; (focus (intro wq hSw; have hrd : ∀ b o, b < w1.heap.size → wq.cell? ⟨b, o, none⟩ = w1.cell? ⟨b, o, none⟩ := (fun b o h => Below.cell hSw (p := ⟨b, o, none⟩) h); go_simp; try with_reducible rfl; done)); try simp only [Act.put, List.setIfInBounds_toArray, List.set_cons_zero, List.set_cons_succ])
      (refine lat_now 4 (by rfl) ?_ (by kernel_rfl) (fun _ _ _ h => h) ?_ ?_; rotate_left; (focus (intro wq hSw; have hrd : ∀ b o, b < w1.heap.size → wq.cell? ⟨b, o, none⟩ = w1.cell? ⟨b, o, none⟩ := (fun b o h => Below.cell hSw (p := ⟨b, o, none⟩) h); go_simp; try with_reducible rfl; done)); try simp only [Act.put, List.setIfInBounds_toArray, List.set_cons_zero, List.set_cons_succ])
      --@b show
      refine lat_done (by kernel_rfl) (fun wz hz => ?_) _
      try refine NoPanic.normal ?_
      go_wp2_with fail
      go_ret
      exact ⟨rfl, hB.trans (hz.mono hB.size)⟩
  · have b1 : (a == a') = false := by simpa using ea
    have hg2 : gg = false := by rw [hg, b1]; simp
    subst hg2
    replace hg := Lib.hid hg
    replace ea := Lib.hid ea
    -- region 1: 0 1 2C 3 4
    try refine wp_region_noPanic ?_
    refine wp_region_lat (by kernel_rfl) ?_
    (refine lat_now 0 (by rfl) ?_ (by kernel_rfl) (fun _ _ _ h => h) ?_ ?_; rotate_left; (focus (intro wq hSw; refine exec_load_blk (x := .tmp 1) ?_ ?_ (hp.below hSw hp.lt) _ Try.underlying61 rfl (by kernel_rfl) <;> rfl)); simp only [Act.put, List.setIfInBounds_toArray, List.set_cons_zero, List.set_cons_succ])
    (refine lat_now 1 (by rfl) ?_ (by kernel_rfl) (fun _ _ _ h => h) ?_ ?_; rotate_left; (focus (intro wq hSw; refine exec_load_blk (x := .tmp 1) ?_ ?_ (hp.below hSw hp.lt) _ Try.underlying61 rfl (by kernel_rfl) <;> rfl)); simp only [Act.put, List.setIfInBounds_toArray, List.set_cons_zero, List.set_cons_succ])
    (refine lat_late 2 (by rfl) (.agg #[.int .u32 a', .int .i64 n']) (by kernel_rfl) (fun _ _ _ h => h) (fun wq hSw => ⟨_, _, ?_, hc wq⟩) ?_; focus (go_simp; try with_reducible rfl; done); try simp only [Act.put, List.setIfInBounds_toArray, List.set_cons_zero, List.set_cons_succ])
    (refine lat_now 3 (by rfl) ?_ (by kernel_rfl) (fun _ _ _ h => h) ?_ ?_; rotate_left; (focus (intro wq hSw; have hrd : ∀ b o, b < w1.heap.size → wq.cell? ⟨b, o, none⟩ = w1.cell? ⟨b, o, none⟩ := (fun b o h => Below.cell hSw (p := ⟨b, o, none⟩) h); go_simp; try with_reducible rfl; done)); try simp only [Act.put, List.setIfInBounds_toArray, List.set_cons_zero, List.set_cons_succ])
    (refine lat_now 4 (by rfl) ?_ (by kernel_rfl) (fun _ _ _ h => h) ?_ ?_; rotate_left; (focus (intro wq hSw; have hrd : ∀ b o, b < w1.heap.size → wq.cell? ⟨b, o, none⟩ = w1.cell? ⟨b, o, none⟩ := (fun b o h => Below.cell hSw (p := ⟨b, o, none⟩) h); go_simp; try with_reducible rfl; done)); try simp only [Act.put, List.setIfInBounds_toArray, List.set_cons_zero, List.set_cons_succ])
    refine lat_done (by kernel_rfl) (fun wz hz => ?_) _
    try refine NoPanic.normal ?_
    go_wp2_with fail
    go_ret
    exact ⟨rfl, hB.trans (hz.mono hB.size)⟩
end Go.Proofs.Ytfnclmacodchfaa
