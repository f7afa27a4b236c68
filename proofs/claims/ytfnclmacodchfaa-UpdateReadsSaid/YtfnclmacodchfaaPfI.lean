/- prefix: Bytes. -/
import Derived.Test.YtfnclmacodchfaaPfH
namespace Go.Proofs.Ytfnclmacodchfaa
set_option linter.unusedVariables false
open Go.RowKit

theorem cut_bd (a : Int) (k : Nat) (h0 : 0 ≤ a) : 0 ≤ cutA a k ∧ cutA a k ≤ a := by
  unfold cutA
  have hp : (0 : Int) < 2 ^ (32 - k) := Int.pow_pos (by decide)
  exact ⟨Int.mul_nonneg (Int.ediv_nonneg h0 (Int.le_of_lt hp)) (Int.le_of_lt hp), Int.ediv_mul_le a (by omega)⟩
/-- a prefix's bytes. -/
def pfB (a n : Int) : List UInt8 := byOf (clampN n) :: (be (cutA a (clampN n)) 4).take (octN (clampN n))
theorem pfB_len (a n : Int) : (pfB a n).length = 1 + octN (clampN n) := by
  unfold pfB
  have := octN_le (clampN n) (clampN_le n)
  rw [List.length_cons, List.length_take, be_len]; omega
theorem own_one (w : World) (x : Int) : OwnB (w.alloc (.cells #[.int .u8 (x % 256)] 5)) w.heap.size (.slice (some ⟨w.heap.size, 0, none⟩) 1 1) 1 [byOf x] := by
  have h := OwnB.lit (base := w.heap.size) w [byOf x] (Nat.le_refl _) (by unfold maxLen; simp)
  have e : byCells [byOf x] = #[.int .u8 (x % 256)] := by simp [byCells, byOf_val]
  rw [e] at h
  exact h
set_option maxRecDepth 100000 in
set_option maxHeartbeats 2000000 in
theorem prefixBytes_any (w : World) (a n : Int) (h0 : 0 ≤ a) (h1 : a ≤ 4294967295) :
    Calls Try.prog 96 #[.agg #[.int .u32 a, .int .i64 n]] w fun e w' => ∃ v, e = .returned v ∧ OwnB w' w.heap.size v (pfB a n).length (pfB a n) ∧ Below w.heap.size w w' := by
  have hk32 := clampN_le n
  have hcb := cut_bd a (clampN n) h0
  have hc := fun (w : World) => canon_any w a n h0 h1
  have hpl := pfB_len a n
  have hpe : pfB a n = byOf (clampN n) :: (be (cutA a (clampN n)) 4).take (octN (clampN n)) := rfl
  rw [hpl]
  rw [hpe]
  clear hpl hpe
  unfold pfC at hc
  generalize cutA a (clampN n) = a' at *
  generalize clampN n = k at *
  have ho := octN_le k hk32
  have hoc := fun (w : World) => octets_any k hk32 w
  generalize octN k = o at *
  have hB := (Below.refl w.heap.size w).alloc (Nat.le_refl _) (.cells #[.int .u32 a, .int .i64 n] 61)
  have hp := Blk.new w 61 #[.int .u32 a, .int .i64 n]
  go_enter Try.func96, Try.ntmps96
  go_wp2_with fail
  refine (hc _).mono ?_
  rintro e w2 ⟨rfl, hb⟩
  replace hB := hB.trans (hb.mono hB.size)
  clear hp hb
  have hB3 := hB.alloc hB.size (.cells #[.int .u32 a', .int .i64 k] 61)
  have hq := Blk.new w2 61 #[.int .u32 a', .int .i64 k]
  go_upto_region 2 with (fail)
  generalize w2.alloc (.cells #[.int .u32 a', .int .i64 k] 61) = w3 at *
  have ltq := hq.lt
  have q0 : w3.cell? ⟨w2.heap.size, 0, none⟩ = some (.int .u32 a') := hq.cellv 0 rfl
  have q1 : w3.cell? ⟨w2.heap.size, 1, none⟩ = some (.int .i64 k) := hq.cellv 1 rfl
  have kw : IntKind.u8.wrap (k : Int) = (k : Int) % 256 := IntKind.wrap_u8 _
  have hb0 : Below w3.heap.size w3 w3.drew := (Below.refl _ _).drew
  -- region 2: 0 1 2 3M 4 5 6C 7 8 9C 10 11M 12
  try refine wp_region_noPanic ?_
  have hs1r : (fun w' => ∀ i, w'.cell? ⟨w2.heap.size, i, none⟩ = w3.cell? ⟨w2.heap.size, i, none⟩) w3.drew := fun _ => rfl
  refine wp_region_held_drew (S := fun w' => ∀ i, w'.cell? ⟨w2.heap.size, i, none⟩ = w3.cell? ⟨w2.heap.size, i, none⟩) (by kernel_rfl) hs1r (fun _ => ?_)
  (refine held_takeA 0 (by rfl) ?_ (by kernel_rfl) (fun _ _ _ h => h) hs1r ?_ ?_; rotate_left; (focus (intro wq hSw; have hrd := hSw; go_simp; try with_reducible rfl; done)); try simp only [Act.put, List.setIfInBounds_toArray, List.set_cons_zero, List.set_cons_succ])
  (refine held_takeA 1 (by rfl) ?_ (by kernel_rfl) (fun _ _ _ h => h) hs1r ?_ ?_; rotate_left; (focus (intro wq hSw; have hrd := hSw; go_simp; try with_reducible rfl; done)); try simp only [Act.put, List.setIfInBounds_toArray, List.set_cons_zero, List.set_cons_succ])
  (refine held_takeA 2 (by rfl) ?_ (by kernel_rfl) (fun _ _ _ h => h) hs1r ?_ ?_; rotate_left; (focus (intro wq hSw; have hrd := hSw; go_simp; try with_reducible rfl; done)); try simp only [Act.put, List.setIfInBounds_toArray, List.set_cons_zero, List.set_cons_succ])
  (refine held_takeA 4 (by rfl) ?_ (by kernel_rfl) (fun _ _ _ h => h) hs1r ?_ ?_; rotate_left; (focus (intro wq hSw; have hrd := hSw; go_simp; try with_reducible rfl; done)); try simp only [Act.put, List.setIfInBounds_toArray, List.set_cons_zero, List.set_cons_succ])
  (refine held_takeA 5 (by rfl) ?_ (by kernel_rfl) (fun _ _ _ h => h) hs1r ?_ ?_; rotate_left; (focus (intro wq hSw; have hrd := hSw; go_simp; try with_reducible rfl; done)); try simp only [Act.put, List.setIfInBounds_toArray, List.set_cons_zero, List.set_cons_succ])
  (refine held_takeA 7 (by rfl) ?_ (by kernel_rfl) (fun _ _ _ h => h) hs1r ?_ ?_; rotate_left; (focus (intro wq hSw; have hrd := hSw; go_simp; try with_reducible rfl; done)); try simp only [Act.put, List.setIfInBounds_toArray, List.set_cons_zero, List.set_cons_succ])
  (refine held_takeA 8 (by rfl) ?_ (by kernel_rfl) (fun _ _ _ h => h) hs1r ?_ ?_; rotate_left; (focus (intro wq hSw; have hrd := hSw; go_simp; try with_reducible rfl; done)); try simp only [Act.put, List.setIfInBounds_toArray, List.set_cons_zero, List.set_cons_succ])
  refine held_two 3 6 (by rfl) (by rfl) (by kernel_rfl) (by rfl) (by rfl) (fun KQ hKQ => ?_) (fun KQ hKQ => ?_)
  · skip
    go_simp
    have hd : (w3.alloc (.cells #[.int .u8 ((k : Int) % 256)] 5)).drew = w3.drew.alloc (.cells #[.int .u8 ((k : Int) % 256)] 5) := rfl
    try rw [hd]
    have own1 := own_one w3.drew k
    have hbl := hb0.alloc hb0.size (.cells #[.int .u8 ((k : Int) % 256)] 5)
    skip
    have hlo : w3.heap.size ≤ w3.drew.heap.size := hb0.size
    generalize w3.drew.alloc (.cells #[.int .u8 ((k : Int) % 256)] 5) = w4 at *
    have hs2r := (fun i => hbl.cell (p := ⟨w2.heap.size, i, none⟩) ltq)
    refine hKQ.out _ _ hs2r ?_
    clear hKQ KQ
    try simp only [Act.put, List.setIfInBounds_toArray, List.set_cons_zero, List.set_cons_succ]
    refine held_callA 6 (by rfl) (by kernel_rfl) (by rfl) (fun KQ hKQ => ?_)
    go_simp
    refine (put32_any w4 none 0 0 [] 0 Byt.none_ (by omega) (by omega) a' hcb.1 (by omega)).mono ?_
    rintro e w5 ⟨v2, rfl, own2, hbp⟩
    rw [List.nil_append, Nat.zero_add] at own2
    obtain ⟨A2, c2, rfl, hc2, hcm2, by2, hA2⟩ := own2.any2
    obtain ⟨A3, hs3, hr3⟩ := slice_take A2 4 c2 o ho hc2
    clear own2
    have own1 := own1.below hbp
    have hbq := hbl.trans (hbp.mono hbl.size)
    have hs3r := (fun i => hbq.cell (p := ⟨w2.heap.size, i, none⟩) ltq)
    refine hKQ.out _ _ hs3r ?_
    clear hKQ KQ
    try simp only [Act.put, List.setIfInBounds_toArray, List.set_cons_zero, List.set_cons_succ]
    refine held_callA 9 (by rfl) (by kernel_rfl) (by rfl) (fun KQ hKQ => ?_)
    go_simp
    refine (hoc w5).mono ?_
    rintro e w' ⟨rfl, rfl⟩
    have hs4r := (fun i => hbq.cell (p := ⟨w2.heap.size, i, none⟩) ltq)
    refine hKQ.out _ _ hs4r ?_
    clear hKQ KQ
    try simp only [Act.put, List.setIfInBounds_toArray, List.set_cons_zero, List.set_cons_succ]
    (refine held_takeA 10 (by rfl) ?_ (by kernel_rfl) (fun _ _ _ h => h) hs4r ?_ ?_; rotate_left; (focus (intro wq hSw; have hrd := hSw; go_simp; try with_reducible rfl; done)); try simp only [Act.put, List.setIfInBounds_toArray, List.set_cons_zero, List.set_cons_succ])
    have by3 := hr3 _ _ _ by2
    refine held_callA 11 (by rfl) (by kernel_rfl) (by rfl) (fun KQ hKQ => ?_)
    refine wp_app _ (.tmp 9) (.tmp 16) (by rfl) _ _ _ _ (by rfl) own1 _ _ _ _ _ (by rfl) by3 (by omega) (Nat.le_of_lt (World.ownsRow.lt own1 _ rfl).2) ?_
    intro v9 w9 own9 hg9 _
    have hb9 := (own1.less hlo).below_app hg9 hbq.size
    have hb10 := hbq.trans hb9
    have hs5r := (fun i => hb10.cell (p := ⟨w2.heap.size, i, none⟩) ltq)
    refine hKQ.out _ _ hs5r ?_
    clear hKQ KQ
    try simp only [Act.put, List.setIfInBounds_toArray, List.set_cons_zero, List.set_cons_succ]
    (refine held_takeA 12 (by rfl) ?_ (by kernel_rfl) (fun _ _ _ h => h) hs5r ?_ ?_; rotate_left; (focus (intro wq hSw; have hrd := hSw; go_simp; try with_reducible rfl; done)); try simp only [Act.put, List.setIfInBounds_toArray, List.set_cons_zero, List.set_cons_succ])
    refine wpAnyH_done (by kernel_rfl) ?_ _
    try refine NoPanic.normal ?_
    go_wp2_with fail
    go_ret
    exact ⟨_, rfl, own9.less (Nat.le_trans (Nat.le_trans hB.size (by omega)) hlo), hB3.trans (hb10.mono hB3.size)⟩
  · skip
    go_simp
    refine (put32_any w3.drew none 0 0 [] 0 Byt.none_ (by omega) (by omega) a' hcb.1 (by omega)).mono ?_
    rintro e w4 ⟨v2, rfl, own2, hbp⟩
    rw [List.nil_append, Nat.zero_add] at own2
    obtain ⟨A2, c2, rfl, hc2, hcm2, by2, hA2⟩ := own2.any2
    obtain ⟨A3, hs3, hr3⟩ := slice_take A2 4 c2 o ho hc2
    clear own2
    skip
    have hbq := hb0.trans (hbp.mono hb0.size)
    have hs6r := (fun i => hbq.cell (p := ⟨w2.heap.size, i, none⟩) ltq)
    refine hKQ.out _ _ hs6r ?_
    clear hKQ KQ
    try simp only [Act.put, List.setIfInBounds_toArray, List.set_cons_zero, List.set_cons_succ]
    refine held_two 3 9 (by rfl) (by rfl) (by kernel_rfl) (by rfl) (by rfl) (fun KQ hKQ => ?_) (fun KQ hKQ => ?_)
    · skip
      go_simp
      have own1 := own_one w4 k
      have hbl := hbq.alloc hbq.size (.cells #[.int .u8 ((k : Int) % 256)] 5)
      have by2 := by2.nx ((Below.refl _ _).alloc (Nat.le_refl _) (.cells #[.int .u8 ((k : Int) % 256)] 5))
      have hlo : w3.heap.size ≤ w4.heap.size := hbq.size
      generalize w4.alloc (.cells #[.int .u8 ((k : Int) % 256)] 5) = w5 at *
      have hs7r := (fun i => hbl.cell (p := ⟨w2.heap.size, i, none⟩) ltq)
      refine hKQ.out _ _ hs7r ?_
      clear hKQ KQ
      try simp only [Act.put, List.setIfInBounds_toArray, List.set_cons_zero, List.set_cons_succ]
      refine held_callA 9 (by rfl) (by kernel_rfl) (by rfl) (fun KQ hKQ => ?_)
      go_simp
      refine (hoc w5).mono ?_
      rintro e w' ⟨rfl, rfl⟩
      have hs8r := (fun i => hbl.cell (p := ⟨w2.heap.size, i, none⟩) ltq)
      refine hKQ.out _ _ hs8r ?_
      clear hKQ KQ
      try simp only [Act.put, List.setIfInBounds_toArray, List.set_cons_zero, List.set_cons_succ]
      (refine held_takeA 10 (by rfl) ?_ (by kernel_rfl) (fun _ _ _ h => h) hs8r ?_ ?_; rotate_left; (focus (intro wq hSw; have hrd := hSw; go_simp; try with_reducible rfl; done)); try simp only [Act.put, List.setIfInBounds_toArray, List.set_cons_zero, List.set_cons_succ])
      have by3 := hr3 _ _ _ by2
      refine held_callA 11 (by rfl) (by kernel_rfl) (by rfl) (fun KQ hKQ => ?_)
      refine wp_app _ (.tmp 9) (.tmp 16) (by rfl) _ _ _ _ (by rfl) own1 _ _ _ _ _ (by rfl) by3 (by omega) (Nat.le_of_lt (World.ownsRow.lt own1 _ rfl).2) ?_
      intro v9 w9 own9 hg9 _
      have hb9 := (own1.less hlo).below_app hg9 hbl.size
      have hb10 := hbl.trans hb9
      have hs9r := (fun i => hb10.cell (p := ⟨w2.heap.size, i, none⟩) ltq)
      refine hKQ.out _ _ hs9r ?_
      clear hKQ KQ
      try simp only [Act.put, List.setIfInBounds_toArray, List.set_cons_zero, List.set_cons_succ]
      (refine held_takeA 12 (by rfl) ?_ (by kernel_rfl) (fun _ _ _ h => h) hs9r ?_ ?_; rotate_left; (focus (intro wq hSw; have hrd := hSw; go_simp; try with_reducible rfl; done)); try simp only [Act.put, List.setIfInBounds_toArray, List.set_cons_zero, List.set_cons_succ])
      refine wpAnyH_done (by kernel_rfl) ?_ _
      try refine NoPanic.normal ?_
      go_wp2_with fail
      go_ret
      exact ⟨_, rfl, own9.less (Nat.le_trans (Nat.le_trans hB.size (by omega)) hlo), hB3.trans (hb10.mono hB3.size)⟩
    · skip
      go_simp
      refine (hoc w4).mono ?_
      rintro e w' ⟨rfl, rfl⟩
      have hs10r := (fun i => hbq.cell (p := ⟨w2.heap.size, i, none⟩) ltq)
      refine hKQ.out _ _ hs10r ?_
      clear hKQ KQ
      try simp only [Act.put, List.setIfInBounds_toArray, List.set_cons_zero, List.set_cons_succ]
      (refine held_takeA 10 (by rfl) ?_ (by kernel_rfl) (fun _ _ _ h => h) hs10r ?_ ?_; rotate_left; (focus (intro wq hSw; have hrd := hSw; go_simp; try with_reducible rfl; done)); try simp only [Act.put, List.setIfInBounds_toArray, List.set_cons_zero, List.set_cons_succ])
      refine held_callA 3 (by rfl) (by kernel_rfl) (by rfl) (fun KQ hKQ => ?_)
      go_simp
      have own1 := own_one w4 k
      have hbl := hbq.alloc hbq.size (.cells #[.int .u8 ((k : Int) % 256)] 5)
      have by2 := by2.nx ((Below.refl _ _).alloc (Nat.le_refl _) (.cells #[.int .u8 ((k : Int) % 256)] 5))
      have hlo : w3.heap.size ≤ w4.heap.size := hbq.size
      generalize w4.alloc (.cells #[.int .u8 ((k : Int) % 256)] 5) = w5 at *
      have hs11r := (fun i => hbl.cell (p := ⟨w2.heap.size, i, none⟩) ltq)
      refine hKQ.out _ _ hs11r ?_
      clear hKQ KQ
      try simp only [Act.put, List.setIfInBounds_toArray, List.set_cons_zero, List.set_cons_succ]
      have by3 := hr3 _ _ _ by2
      refine held_callA 11 (by rfl) (by kernel_rfl) (by rfl) (fun KQ hKQ => ?_)
      refine wp_app _ (.tmp 9) (.tmp 16) (by rfl) _ _ _ _ (by rfl) own1 _ _ _ _ _ (by rfl) by3 (by omega) (Nat.le_of_lt (World.ownsRow.lt own1 _ rfl).2) ?_
      intro v9 w9 own9 hg9 _
      have hb9 := (own1.less hlo).below_app hg9 hbl.size
      have hb10 := hbl.trans hb9
      have hs12r := (fun i => hb10.cell (p := ⟨w2.heap.size, i, none⟩) ltq)
      refine hKQ.out _ _ hs12r ?_
      clear hKQ KQ
      try simp only [Act.put, List.setIfInBounds_toArray, List.set_cons_zero, List.set_cons_succ]
      (refine held_takeA 12 (by rfl) ?_ (by kernel_rfl) (fun _ _ _ h => h) hs12r ?_ ?_; rotate_left; (focus (intro wq hSw; have hrd := hSw; go_simp; try with_reducible rfl; done)); try simp only [Act.put, List.setIfInBounds_toArray, List.set_cons_zero, List.set_cons_succ])
      refine wpAnyH_done (by kernel_rfl) ?_ _
      try refine NoPanic.normal ?_
      go_wp2_with fail
      go_ret
      exact ⟨_, rfl, own9.less (Nat.le_trans (Nat.le_trans hB.size (by omega)) hlo), hB3.trans (hb10.mono hB3.size)⟩
end Go.Proofs.Ytfnclmacodchfaa
