import Derived.Test.YtgdeecmhhbdjgaaGreatMVipActs7
/- pool: Mark, Drain, Weigh. -/
namespace Go.Proofs.YtgdeecmhhbdjgaaGreat
set_option linter.unusedVariables false
open Go Go.RowKit Go.Maps

set_option maxRecDepth 100000 in
set_option maxHeartbeats 2000000 in
theorem changeNone (w : World) (g b : Nat) (pc : Int) (M : List Mem) (id : Int) (f : Fn) (x : Nat) (h : PoolIn w g b pc M) (i0 : -9223372036854775808 ≤ id) (i1 : id ≤ 9223372036854775807) (hnot : ∀ m ∈ M, m.id ≠ id) :
    Calls Tryz.prog 169 #[.pointer (some ⟨g, 0, none⟩), .int .i64 id, .func f #[] #[.pointer (some ⟨x, 0, none⟩)]] w fun e w' => e = .returned (.int .i64 7) ∧ Below w.heap.size w w' := by
  have c1 : w.cell? ⟨g, 1, none⟩ = some (.map (some b)) := h.1.cellv 1 rfl
  have hlk := h.2.miss1 int_key map_und mem_zero (int_lit id i0 i1) (no_id hnot)
  have hB := (Below.refl w.heap.size w).alloc (Nat.le_refl _) (.cells #[.int .i64 0, .int .u32 0, .int .i64 0, .bool false, .bool false] 216)
  go_enter Tryz.func169, Tryz.ntmps169
  go_wp2_with (go_at_call 182; refine (made_in h).mono ?_; rintro e w' ⟨rfl, rfl⟩)
  go_ret
  exact ⟨rfl, hB⟩
set_option maxRecDepth 100000 in
theorem doMark (w : World) (r x : Nat) (m : Mem) (u : Bool) (hr : Blk w r 216 (memC m)) (hx : Blk w x 4 #[.bool u]) :
    Calls Tryz.prog 170 #[.pointer (some ⟨r, 0, none⟩), .pointer (some ⟨x, 0, none⟩)] w fun e w' => e = .returned (.int .i64 0) ∧ Blk w' r 216 (memC { m with up := u }) ∧ w.grownBy w' (some r) := by
  have c0 : w.cell? ⟨x, 0, none⟩ = some (.bool u) := hx.cellv 0 rfl
  have c1 : w.cell? ⟨r, 3, none⟩ = (memC m)[3]? := hr.cell 3
  simp only [memC] at c1
  have f1 := hr.frozen 3
  obtain ⟨h2, g2⟩ := blk_store hr 3 (.bool u)
  replace h2 : Blk (w.setCell ⟨r, 3, none⟩ (.bool u)) r 216 (memC { m with up := u }) := h2
  replace h2 := Lib.hid h2
  replace g2 := Lib.hid g2
  go_enter Tryz.func170, Tryz.ntmps170
  go_wp2_with fail
  go_ret
  exact ⟨rfl, h2.out, g2.out⟩
set_option maxRecDepth 100000 in
set_option maxHeartbeats 2000000 in
theorem changeMark (w : World) (g b x : Nat) (pc : Int) (M : List Mem) (j : Nat) (m : Mem) (u : Bool) (h : PoolIn w g b pc M) (hj : M[j]? = some m) (i0 : -9223372036854775808 ≤ m.id) (i1 : m.id ≤ 9223372036854775807) (hx : Blk w x 4 #[.bool u]) :
    Calls Tryz.prog 169 #[.pointer (some ⟨g, 0, none⟩), .int .i64 m.id, .func (.func 170) #[] #[.pointer (some ⟨x, 0, none⟩)]] w fun e w' => e = .returned (.int .i64 0) ∧ PoolIn w' g b pc (M.set j { m with up := u }) ∧ w.grownBy w' (some b) := by
  have c1 : w.cell? ⟨g, 1, none⟩ = some (.map (some b)) := h.1.cellv 1 rfl
  have hkl := int_lit m.id i0 i1
  have hlk := h.2.hit1 int_key map_und hkl (is_id (List.mem_of_getElem? hj))
  simp only [memC] at hlk
  have hB := (Below.refl w.heap.size w).alloc (Nat.le_refl _) (.cells (memC m) 216)
  have hr := Blk.new w 216 (memC m)
  have h1 := h.alloc (.cells (memC m) 216)
  have hx1 := hx.alloc (.cells (memC m) 216)
  simp only [memC] at hB
  have hma : w.alloc (.cells #[.int .i64 m.id, .int .u32 m.ad, .int .i64 m.wt, .bool m.up, .bool m.dr] 216) = w.alloc (.cells (memC m) 216) := rfl
  go_enter Tryz.func169, Tryz.ntmps169
  go_upto_region 4 with (go_at_call 182; refine (made_in h).mono ?_; rintro e w' ⟨rfl, rfl⟩)
  try rw [hma]
  rw [hma] at hB
  clear hma hlk c1
  generalize w.alloc (.cells (memC m) 216) = w2 at *
  go_wp2_with (go_at_call 170; refine (doMark w2 _ x m u hr hx1).mono ?_; rintro e w3 ⟨rfl, hr3, hg3⟩; skip)
  have ltb0 := h.ltb
  have ltg0 := h.ltg
  have ltr := hr3.lt
  have h3 := h1.grown hg3 (by simp; omega) (by simp; omega)
  have ltb := h3.ltb
  have ltg := h3.ltg
  have hgb : g ≠ b := h.ne
  have hrb : w.heap.size ≠ b := by omega
  have c1 : w3.cell? ⟨g, 1, none⟩ = some (.map (some b)) := h3.1.cellv 1 rfl
  have hB3 := below_own hB hg3 hB.size (Nat.le_refl _)
  have hjE : (M.map memE)[j]? = some (.int .i64 m.id, .agg (memC m)) := by rw [List.getElem?_map, hj]; rfl
  unfold memC at hr3
  simp only at hr3
  try refine wp_region_noPanic ?_
  have hs1r : w3.grownBy w3.drew (some b) := grown_drew (grown_refl _ _)
  refine wp_region_held_drew (S := fun w' => w3.grownBy w' (some b)) (by kernel_rfl) hs1r (fun _ => ?_)
  (refine held_takeA 0 (by rfl) ?_ (by kernel_rfl) (fun _ _ _ h => h) hs1r ?_ ?_; rotate_left; (focus (intro wq hSw; have hrd := zG hSw; go_simp; try with_reducible rfl; done)); try simp only [Act.put, zA, zB, zC])
  (refine held_takeA 1 (by rfl) ?_ (by kernel_rfl) (fun _ _ _ h => h) hs1r ?_ ?_; rotate_left; (focus (intro wq hSw; have hrd := zG hSw; go_simp; try with_reducible rfl; done)); try simp only [Act.put, zA, zB, zC])
  (refine held_takeA 2 (by rfl) ?_ (by kernel_rfl) (fun _ _ _ h => h) hs1r ?_ ?_; rotate_left; (focus (intro wq hSw; have hrd := zG hSw; go_simp; try with_reducible rfl; done)); try simp only [Act.put, zA, zB, zC])
  (refine held_takeA 3 (by rfl) ?_ (by kernel_rfl) (fun _ _ _ h => h) hs1r ?_ ?_; rotate_left; (focus (intro wq hSw; have hrd := zG hSw; go_simp; try with_reducible rfl; done)); try simp only [Act.put, zA, zB, zC])
  (refine held_takeA 4 (by rfl) ?_ (by kernel_rfl) (fun _ _ _ h => h) hs1r ?_ ?_; rotate_left; (focus (intro wq hSw; have hrd := zG hSw; go_simp; try with_reducible rfl; done)); try simp only [Act.put, zA, zB, zC])
  (refine held_takeA 5 (by rfl) ?_ (by kernel_rfl) (fun _ _ _ h => h) hs1r ?_ ?_; rotate_left; (focus (intro wq hSw; refine exec_load_blk (x := .tmp 7) ?_ ?_ (hr3.grown hSw (by simp; omega)) _ Tryz.underlying216 rfl (by kernel_rfl) <;> rfl)); simp only [Act.put, zA, zB, zC])
  refine held_callA 6 (by rfl) (by kernel_rfl) (by rfl) (fun KQ hKQ => ?_)
  refine wp_put_old (key := .int .i64 m.id) (val := .agg (memC { m with up := u })) h3.2.drew int_key map_und (.tmp 31) (.tmp 32) (.tmp 33) (by rfl) (by rfl) (by rfl) (by rfl) hkl hjE ?_
  intro w4 he4 hg4
  refine hKQ.out _ _ (grown_trans hs1r hg4) (held_mono (S' := fun w' => w4.grownBy w' (some b)) (fun w' h => grown_trans (grown_trans hs1r hg4) h) _ _ _ _ ?_)
  clear hKQ KQ
  replace hr3 := hr3.grown (grown_trans hs1r hg4) (by simp; omega)
  have hs2r : w4.grownBy w4 (some b) := grown_refl _ _
  try simp only [Act.put]
  refine wpAnyH_done (by kernel_rfl) ?_ _
  try refine NoPanic.normal ?_
  go_wp2_with fail
  go_ret
  have hg5 : w3.grownBy w4 (some b) := grown_trans (grown_drew (grown_refl w3 (some b))) hg4
  refine ⟨rfl, ⟨h3.1.grown hg5 (by simp; omega), ?_⟩, grown_trans (grown_of_below hB3 (Nat.le_refl _) _) hg5⟩
  rw [List.map_set]
  exact he4
set_option maxHeartbeats 1000000 in
theorem pMark (w : World) (g b : Nat) (pc : Int) (M : List Mem) (j : Nat) (m : Mem) (u : Bool) (h : PoolIn w g b pc M) (hj : M[j]? = some m) (i0 : -9223372036854775808 ≤ m.id) (i1 : m.id ≤ 9223372036854775807) :
    Calls Tryz.prog 87 #[.pointer (some ⟨g, 0, none⟩), .int .i64 m.id, .bool u] w fun e w' => e = .returned (.int .i64 0) ∧ PoolIn w' g b pc (M.set j { m with up := u }) ∧ w.grownBy w' (some b) := by
  have hB := (Below.refl w.heap.size w).alloc (Nat.le_refl _) (.cells #[.bool u] 4)
  have hx := Blk.new w 4 #[.bool u]
  have h1 := h.alloc (.cells #[.bool u] 4)
  go_enter Tryz.func87, Tryz.ntmps87
  go_upto_region 1 with (fail)
  generalize w.alloc (.cells #[.bool u] 4) = w1 at *
  go_wp2_with (refine (changeMark w1 g b _ pc M j m u h1 hj i0 i1 hx).mono ?_; rintro e w2 ⟨rfl, h2, hg2⟩)
  go_ret
  exact ⟨rfl, h2, grown_trans (grown_of_below hB (Nat.le_refl _) _) hg2⟩
set_option maxHeartbeats 1000000 in
theorem pMarkNo (w : World) (g b : Nat) (pc : Int) (M : List Mem) (id : Int) (u : Bool) (h : PoolIn w g b pc M) (i0 : -9223372036854775808 ≤ id) (i1 : id ≤ 9223372036854775807) (hnot : ∀ m ∈ M, m.id ≠ id) :
    Calls Tryz.prog 87 #[.pointer (some ⟨g, 0, none⟩), .int .i64 id, .bool u] w fun e w' => e = .returned (.int .i64 7) ∧ Below w.heap.size w w' := by
  have hB := (Below.refl w.heap.size w).alloc (Nat.le_refl _) (.cells #[.bool u] 4)
  have h1 := h.alloc (.cells #[.bool u] 4)
  go_enter Tryz.func87, Tryz.ntmps87
  go_upto_region 1 with (fail)
  generalize w.alloc (.cells #[.bool u] 4) = w1 at *
  go_wp2_with (refine (changeNone w1 g b pc M id _ _ h1 i0 i1 hnot).mono ?_; rintro e w2 ⟨rfl, hb⟩)
  go_ret
  exact ⟨rfl, hB.trans (hb.mono hB.size)⟩
set_option maxRecDepth 100000 in
theorem doDrain (w : World) (r x : Nat) (m : Mem) (u : Bool) (hr : Blk w r 216 (memC m)) (hx : Blk w x 4 #[.bool u]) :
    Calls Tryz.prog 179 #[.pointer (some ⟨r, 0, none⟩), .pointer (some ⟨x, 0, none⟩)] w fun e w' => e = .returned (.int .i64 0) ∧ Blk w' r 216 (memC { m with dr := u }) ∧ w.grownBy w' (some r) := by
  have c0 : w.cell? ⟨x, 0, none⟩ = some (.bool u) := hx.cellv 0 rfl
  have c1 : w.cell? ⟨r, 4, none⟩ = (memC m)[4]? := hr.cell 4
  simp only [memC] at c1
  have f1 := hr.frozen 4
  obtain ⟨h2, g2⟩ := blk_store hr 4 (.bool u)
  replace h2 : Blk (w.setCell ⟨r, 4, none⟩ (.bool u)) r 216 (memC { m with dr := u }) := h2
  replace h2 := Lib.hid h2
  replace g2 := Lib.hid g2
  go_enter Tryz.func179, Tryz.ntmps179
  go_wp2_with fail
  go_ret
  exact ⟨rfl, h2.out, g2.out⟩
set_option maxRecDepth 100000 in
set_option maxHeartbeats 2000000 in
theorem changeDrain (w : World) (g b x : Nat) (pc : Int) (M : List Mem) (j : Nat) (m : Mem) (u : Bool) (h : PoolIn w g b pc M) (hj : M[j]? = some m) (i0 : -9223372036854775808 ≤ m.id) (i1 : m.id ≤ 9223372036854775807) (hx : Blk w x 4 #[.bool u]) :
    Calls Tryz.prog 169 #[.pointer (some ⟨g, 0, none⟩), .int .i64 m.id, .func (.func 179) #[] #[.pointer (some ⟨x, 0, none⟩)]] w fun e w' => e = .returned (.int .i64 0) ∧ PoolIn w' g b pc (M.set j { m with dr := u }) ∧ w.grownBy w' (some b) := by
  have c1 : w.cell? ⟨g, 1, none⟩ = some (.map (some b)) := h.1.cellv 1 rfl
  have hkl := int_lit m.id i0 i1
  have hlk := h.2.hit1 int_key map_und hkl (is_id (List.mem_of_getElem? hj))
  simp only [memC] at hlk
  have hB := (Below.refl w.heap.size w).alloc (Nat.le_refl _) (.cells (memC m) 216)
  have hr := Blk.new w 216 (memC m)
  have h1 := h.alloc (.cells (memC m) 216)
  have hx1 := hx.alloc (.cells (memC m) 216)
  simp only [memC] at hB
  have hma : w.alloc (.cells #[.int .i64 m.id, .int .u32 m.ad, .int .i64 m.wt, .bool m.up, .bool m.dr] 216) = w.alloc (.cells (memC m) 216) := rfl
  go_enter Tryz.func169, Tryz.ntmps169
  go_upto_region 4 with (go_at_call 182; refine (made_in h).mono ?_; rintro e w' ⟨rfl, rfl⟩)
  try rw [hma]
  rw [hma] at hB
  clear hma hlk c1
  generalize w.alloc (.cells (memC m) 216) = w2 at *
  go_wp2_with (go_at_call 179; refine (doDrain w2 _ x m u hr hx1).mono ?_; rintro e w3 ⟨rfl, hr3, hg3⟩; skip)
  have ltb0 := h.ltb
  have ltg0 := h.ltg
  have ltr := hr3.lt
  have h3 := h1.grown hg3 (by simp; omega) (by simp; omega)
  have ltb := h3.ltb
  have ltg := h3.ltg
  have hgb : g ≠ b := h.ne
  have hrb : w.heap.size ≠ b := by omega
  have c1 : w3.cell? ⟨g, 1, none⟩ = some (.map (some b)) := h3.1.cellv 1 rfl
  have hB3 := below_own hB hg3 hB.size (Nat.le_refl _)
  have hjE : (M.map memE)[j]? = some (.int .i64 m.id, .agg (memC m)) := by rw [List.getElem?_map, hj]; rfl
  unfold memC at hr3
  simp only at hr3
  try refine wp_region_noPanic ?_
  have hs3r : w3.grownBy w3.drew (some b) := grown_drew (grown_refl _ _)
  refine wp_region_held_drew (S := fun w' => w3.grownBy w' (some b)) (by kernel_rfl) hs3r (fun _ => ?_)
  (refine held_takeA 0 (by rfl) ?_ (by kernel_rfl) (fun _ _ _ h => h) hs3r ?_ ?_; rotate_left; (focus (intro wq hSw; have hrd := zG hSw; go_simp; try with_reducible rfl; done)); try simp only [Act.put, zA, zB, zC])
  (refine held_takeA 1 (by rfl) ?_ (by kernel_rfl) (fun _ _ _ h => h) hs3r ?_ ?_; rotate_left; (focus (intro wq hSw; have hrd := zG hSw; go_simp; try with_reducible rfl; done)); try simp only [Act.put, zA, zB, zC])
  (refine held_takeA 2 (by rfl) ?_ (by kernel_rfl) (fun _ _ _ h => h) hs3r ?_ ?_; rotate_left; (focus (intro wq hSw; have hrd := zG hSw; go_simp; try with_reducible rfl; done)); try simp only [Act.put, zA, zB, zC])
  (refine held_takeA 3 (by rfl) ?_ (by kernel_rfl) (fun _ _ _ h => h) hs3r ?_ ?_; rotate_left; (focus (intro wq hSw; have hrd := zG hSw; go_simp; try with_reducible rfl; done)); try simp only [Act.put, zA, zB, zC])
  (refine held_takeA 4 (by rfl) ?_ (by kernel_rfl) (fun _ _ _ h => h) hs3r ?_ ?_; rotate_left; (focus (intro wq hSw; have hrd := zG hSw; go_simp; try with_reducible rfl; done)); try simp only [Act.put, zA, zB, zC])
  (refine held_takeA 5 (by rfl) ?_ (by kernel_rfl) (fun _ _ _ h => h) hs3r ?_ ?_; rotate_left; (focus (intro wq hSw; refine exec_load_blk (x := .tmp 7) ?_ ?_ (hr3.grown hSw (by simp; omega)) _ Tryz.underlying216 rfl (by kernel_rfl) <;> rfl)); simp only [Act.put, zA, zB, zC])
  refine held_callA 6 (by rfl) (by kernel_rfl) (by rfl) (fun KQ hKQ => ?_)
  refine wp_put_old (key := .int .i64 m.id) (val := .agg (memC { m with dr := u })) h3.2.drew int_key map_und (.tmp 31) (.tmp 32) (.tmp 33) (by rfl) (by rfl) (by rfl) (by rfl) hkl hjE ?_
  intro w4 he4 hg4
  refine hKQ.out _ _ (grown_trans hs3r hg4) (held_mono (S' := fun w' => w4.grownBy w' (some b)) (fun w' h => grown_trans (grown_trans hs3r hg4) h) _ _ _ _ ?_)
  clear hKQ KQ
  replace hr3 := hr3.grown (grown_trans hs3r hg4) (by simp; omega)
  have hs4r : w4.grownBy w4 (some b) := grown_refl _ _
  try simp only [Act.put]
  refine wpAnyH_done (by kernel_rfl) ?_ _
  try refine NoPanic.normal ?_
  go_wp2_with fail
  go_ret
  have hg5 : w3.grownBy w4 (some b) := grown_trans (grown_drew (grown_refl w3 (some b))) hg4
  refine ⟨rfl, ⟨h3.1.grown hg5 (by simp; omega), ?_⟩, grown_trans (grown_of_below hB3 (Nat.le_refl _) _) hg5⟩
  rw [List.map_set]
  exact he4
set_option maxHeartbeats 1000000 in
theorem pDrain (w : World) (g b : Nat) (pc : Int) (M : List Mem) (j : Nat) (m : Mem) (u : Bool) (h : PoolIn w g b pc M) (hj : M[j]? = some m) (i0 : -9223372036854775808 ≤ m.id) (i1 : m.id ≤ 9223372036854775807) :
    Calls Tryz.prog 94 #[.pointer (some ⟨g, 0, none⟩), .int .i64 m.id, .bool u] w fun e w' => e = .returned (.int .i64 0) ∧ PoolIn w' g b pc (M.set j { m with dr := u }) ∧ w.grownBy w' (some b) := by
  have hB := (Below.refl w.heap.size w).alloc (Nat.le_refl _) (.cells #[.bool u] 4)
  have hx := Blk.new w 4 #[.bool u]
  have h1 := h.alloc (.cells #[.bool u] 4)
  go_enter Tryz.func94, Tryz.ntmps94
  go_upto_region 1 with (fail)
  generalize w.alloc (.cells #[.bool u] 4) = w1 at *
  go_wp2_with (refine (changeDrain w1 g b _ pc M j m u h1 hj i0 i1 hx).mono ?_; rintro e w2 ⟨rfl, h2, hg2⟩)
  go_ret
  exact ⟨rfl, h2, grown_trans (grown_of_below hB (Nat.le_refl _) _) hg2⟩
set_option maxHeartbeats 1000000 in
theorem pDrainNo (w : World) (g b : Nat) (pc : Int) (M : List Mem) (id : Int) (u : Bool) (h : PoolIn w g b pc M) (i0 : -9223372036854775808 ≤ id) (i1 : id ≤ 9223372036854775807) (hnot : ∀ m ∈ M, m.id ≠ id) :
    Calls Tryz.prog 94 #[.pointer (some ⟨g, 0, none⟩), .int .i64 id, .bool u] w fun e w' => e = .returned (.int .i64 7) ∧ Below w.heap.size w w' := by
  have hB := (Below.refl w.heap.size w).alloc (Nat.le_refl _) (.cells #[.bool u] 4)
  have h1 := h.alloc (.cells #[.bool u] 4)
  go_enter Tryz.func94, Tryz.ntmps94
  go_upto_region 1 with (fail)
  generalize w.alloc (.cells #[.bool u] 4) = w1 at *
  go_wp2_with (refine (changeNone w1 g b pc M id _ _ h1 i0 i1 hnot).mono ?_; rintro e w2 ⟨rfl, hb⟩)
  go_ret
  exact ⟨rfl, hB.trans (hb.mono hB.size)⟩
set_option maxRecDepth 100000 in
theorem doWeigh (w : World) (r x : Nat) (m : Mem) (u : Int) (hr : Blk w r 216 (memC m)) (hx : Blk w x 3 #[.int .i64 u]) (hw : wtB u = true) :
    Calls Tryz.prog 180 #[.pointer (some ⟨r, 0, none⟩), .pointer (some ⟨x, 0, none⟩)] w fun e w' => e = .returned (.int .i64 0) ∧ Blk w' r 216 (memC { m with wt := u }) ∧ w.grownBy w' (some r) := by
  have c0 : w.cell? ⟨x, 0, none⟩ = some (.int .i64 u) := hx.cellv 0 rfl
  have c1 : w.cell? ⟨r, 2, none⟩ = (memC m)[2]? := hr.cell 2
  simp only [memC] at c1
  have f1 := hr.frozen 2
  obtain ⟨h2, g2⟩ := blk_store hr 2 (.int .i64 u)
  replace h2 : Blk (w.setCell ⟨r, 2, none⟩ (.int .i64 u)) r 216 (memC { m with wt := u }) := h2
  replace h2 := Lib.hid h2
  replace g2 := Lib.hid g2
  go_enter Tryz.func180, Tryz.ntmps180
  go_wp2_with  (go_at_call 181; refine (isWeight_any _ _).mono ?_; rintro e w' ⟨rfl, rfl⟩; rw [hw])
  go_ret
  exact ⟨rfl, h2.out, g2.out⟩
set_option maxRecDepth 100000 in
set_option maxHeartbeats 2000000 in
theorem changeWeigh (w : World) (g b x : Nat) (pc : Int) (M : List Mem) (j : Nat) (m : Mem) (u : Int) (h : PoolIn w g b pc M) (hj : M[j]? = some m) (i0 : -9223372036854775808 ≤ m.id) (i1 : m.id ≤ 9223372036854775807) (hx : Blk w x 3 #[.int .i64 u]) (hw : wtB u = true) :
    Calls Tryz.prog 169 #[.pointer (some ⟨g, 0, none⟩), .int .i64 m.id, .func (.func 180) #[] #[.pointer (some ⟨x, 0, none⟩)]] w fun e w' => e = .returned (.int .i64 0) ∧ PoolIn w' g b pc (M.set j { m with wt := u }) ∧ w.grownBy w' (some b) := by
  have c1 : w.cell? ⟨g, 1, none⟩ = some (.map (some b)) := h.1.cellv 1 rfl
  have hkl := int_lit m.id i0 i1
  have hlk := h.2.hit1 int_key map_und hkl (is_id (List.mem_of_getElem? hj))
  simp only [memC] at hlk
  have hB := (Below.refl w.heap.size w).alloc (Nat.le_refl _) (.cells (memC m) 216)
  have hr := Blk.new w 216 (memC m)
  have h1 := h.alloc (.cells (memC m) 216)
  have hx1 := hx.alloc (.cells (memC m) 216)
  simp only [memC] at hB
  have hma : w.alloc (.cells #[.int .i64 m.id, .int .u32 m.ad, .int .i64 m.wt, .bool m.up, .bool m.dr] 216) = w.alloc (.cells (memC m) 216) := rfl
  go_enter Tryz.func169, Tryz.ntmps169
  go_upto_region 4 with (go_at_call 182; refine (made_in h).mono ?_; rintro e w' ⟨rfl, rfl⟩)
  try rw [hma]
  rw [hma] at hB
  clear hma hlk c1
  generalize w.alloc (.cells (memC m) 216) = w2 at *
  go_wp2_with (go_at_call 180; refine (doWeigh w2 _ x m u hr hx1 hw).mono ?_; rintro e w3 ⟨rfl, hr3, hg3⟩; skip)
  have ltb0 := h.ltb
  have ltg0 := h.ltg
  have ltr := hr3.lt
  have h3 := h1.grown hg3 (by simp; omega) (by simp; omega)
  have ltb := h3.ltb
  have ltg := h3.ltg
  have hgb : g ≠ b := h.ne
  have hrb : w.heap.size ≠ b := by omega
  have c1 : w3.cell? ⟨g, 1, none⟩ = some (.map (some b)) := h3.1.cellv 1 rfl
  have hB3 := below_own hB hg3 hB.size (Nat.le_refl _)
  have hjE : (M.map memE)[j]? = some (.int .i64 m.id, .agg (memC m)) := by rw [List.getElem?_map, hj]; rfl
  unfold memC at hr3
  simp only at hr3
  try refine wp_region_noPanic ?_
  have hs5r : w3.grownBy w3.drew (some b) := grown_drew (grown_refl _ _)
  refine wp_region_held_drew (S := fun w' => w3.grownBy w' (some b)) (by kernel_rfl) hs5r (fun _ => ?_)
  (refine held_takeA 0 (by rfl) ?_ (by kernel_rfl) (fun _ _ _ h => h) hs5r ?_ ?_; rotate_left; (focus (intro wq hSw; have hrd := zG hSw; go_simp; try with_reducible rfl; done)); try simp only [Act.put, zA, zB, zC])
  (refine held_takeA 1 (by rfl) ?_ (by kernel_rfl) (fun _ _ _ h => h) hs5r ?_ ?_; rotate_left; (focus (intro wq hSw; have hrd := zG hSw; go_simp; try with_reducible rfl; done)); try simp only [Act.put, zA, zB, zC])
  (refine held_takeA 2 (by rfl) ?_ (by kernel_rfl) (fun _ _ _ h => h) hs5r ?_ ?_; rotate_left; (focus (intro wq hSw; have hrd := zG hSw; go_simp; try with_reducible rfl; done)); try simp only [Act.put, zA, zB, zC])
  (refine held_takeA 3 (by rfl) ?_ (by kernel_rfl) (fun _ _ _ h => h) hs5r ?_ ?_; rotate_left; (focus (intro wq hSw; have hrd := zG hSw; go_simp; try with_reducible rfl; done)); try simp only [Act.put, zA, zB, zC])
  (refine held_takeA 4 (by rfl) ?_ (by kernel_rfl) (fun _ _ _ h => h) hs5r ?_ ?_; rotate_left; (focus (intro wq hSw; have hrd := zG hSw; go_simp; try with_reducible rfl; done)); try simp only [Act.put, zA, zB, zC])
  (refine held_takeA 5 (by rfl) ?_ (by kernel_rfl) (fun _ _ _ h => h) hs5r ?_ ?_; rotate_left; (focus (intro wq hSw; refine exec_load_blk (x := .tmp 7) ?_ ?_ (hr3.grown hSw (by simp; omega)) _ Tryz.underlying216 rfl (by kernel_rfl) <;> rfl)); simp only [Act.put, zA, zB, zC])
  refine held_callA 6 (by rfl) (by kernel_rfl) (by rfl) (fun KQ hKQ => ?_)
  refine wp_put_old (key := .int .i64 m.id) (val := .agg (memC { m with wt := u })) h3.2.drew int_key map_und (.tmp 31) (.tmp 32) (.tmp 33) (by rfl) (by rfl) (by rfl) (by rfl) hkl hjE ?_
  intro w4 he4 hg4
  refine hKQ.out _ _ (grown_trans hs5r hg4) (held_mono (S' := fun w' => w4.grownBy w' (some b)) (fun w' h => grown_trans (grown_trans hs5r hg4) h) _ _ _ _ ?_)
  clear hKQ KQ
  replace hr3 := hr3.grown (grown_trans hs5r hg4) (by simp; omega)
  have hs6r : w4.grownBy w4 (some b) := grown_refl _ _
  try simp only [Act.put]
  refine wpAnyH_done (by kernel_rfl) ?_ _
  try refine NoPanic.normal ?_
  go_wp2_with fail
  go_ret
  have hg5 : w3.grownBy w4 (some b) := grown_trans (grown_drew (grown_refl w3 (some b))) hg4
  refine ⟨rfl, ⟨h3.1.grown hg5 (by simp; omega), ?_⟩, grown_trans (grown_of_below hB3 (Nat.le_refl _) _) hg5⟩
  rw [List.map_set]
  exact he4
set_option maxHeartbeats 1000000 in
theorem pWeigh (w : World) (g b : Nat) (pc : Int) (M : List Mem) (j : Nat) (m : Mem) (u : Int) (h : PoolIn w g b pc M) (hj : M[j]? = some m) (i0 : -9223372036854775808 ≤ m.id) (i1 : m.id ≤ 9223372036854775807) (hw : wtB u = true) :
    Calls Tryz.prog 95 #[.pointer (some ⟨g, 0, none⟩), .int .i64 m.id, .int .i64 u] w fun e w' => e = .returned (.int .i64 0) ∧ PoolIn w' g b pc (M.set j { m with wt := u }) ∧ w.grownBy w' (some b) := by
  have hB := (Below.refl w.heap.size w).alloc (Nat.le_refl _) (.cells #[.int .i64 u] 3)
  have hx := Blk.new w 3 #[.int .i64 u]
  have h1 := h.alloc (.cells #[.int .i64 u] 3)
  go_enter Tryz.func95, Tryz.ntmps95
  go_upto_region 1 with (fail)
  generalize w.alloc (.cells #[.int .i64 u] 3) = w1 at *
  go_wp2_with (refine (changeWeigh w1 g b _ pc M j m u h1 hj i0 i1 hx hw).mono ?_; rintro e w2 ⟨rfl, h2, hg2⟩)
  go_ret
  exact ⟨rfl, h2, grown_trans (grown_of_below hB (Nat.le_refl _) _) hg2⟩
set_option maxHeartbeats 1000000 in
theorem pWeighNo (w : World) (g b : Nat) (pc : Int) (M : List Mem) (id : Int) (u : Int) (h : PoolIn w g b pc M) (i0 : -9223372036854775808 ≤ id) (i1 : id ≤ 9223372036854775807) (hnot : ∀ m ∈ M, m.id ≠ id) :
    Calls Tryz.prog 95 #[.pointer (some ⟨g, 0, none⟩), .int .i64 id, .int .i64 u] w fun e w' => e = .returned (.int .i64 7) ∧ Below w.heap.size w w' := by
  have hB := (Below.refl w.heap.size w).alloc (Nat.le_refl _) (.cells #[.int .i64 u] 3)
  have h1 := h.alloc (.cells #[.int .i64 u] 3)
  go_enter Tryz.func95, Tryz.ntmps95
  go_upto_region 1 with (fail)
  generalize w.alloc (.cells #[.int .i64 u] 3) = w1 at *
  go_wp2_with (refine (changeNone w1 g b pc M id _ _ h1 i0 i1 hnot).mono ?_; rintro e w2 ⟨rfl, hb⟩)
  go_ret
  exact ⟨rfl, hB.trans (hb.mono hB.size)⟩
set_option maxRecDepth 100000 in
theorem doWeighBad (w : World) (r x : Nat) (u : Int) (hx : Blk w x 3 #[.int .i64 u]) (hw : wtB u = false) :
    Calls Tryz.prog 180 #[.pointer (some ⟨r, 0, none⟩), .pointer (some ⟨x, 0, none⟩)] w fun e w' => e = .returned (.int .i64 2) ∧ w = w' := by
  have c0 : w.cell? ⟨x, 0, none⟩ = some (.int .i64 u) := hx.cellv 0 rfl
  go_enter Tryz.func180, Tryz.ntmps180
  go_wp2_with (go_at_call 181; refine (isWeight_any _ _).mono ?_; rintro e w' ⟨rfl, rfl⟩; rw [hw])
  go_ret
  exact ⟨rfl, rfl⟩
set_option maxRecDepth 100000 in
set_option maxHeartbeats 2000000 in
theorem changeWeighBad (w : World) (g b x : Nat) (pc : Int) (M : List Mem) (m : Mem) (u : Int) (h : PoolIn w g b pc M) (hj : m ∈ M) (i0 : -9223372036854775808 ≤ m.id) (i1 : m.id ≤ 9223372036854775807) (hx : Blk w x 3 #[.int .i64 u]) (hw : wtB u = false) :
    Calls Tryz.prog 169 #[.pointer (some ⟨g, 0, none⟩), .int .i64 m.id, .func (.func 180) #[] #[.pointer (some ⟨x, 0, none⟩)]] w fun e w' => e = .returned (.int .i64 2) ∧ Below w.heap.size w w' := by
  have c1 : w.cell? ⟨g, 1, none⟩ = some (.map (some b)) := h.1.cellv 1 rfl
  have hkl := int_lit m.id i0 i1
  have hlk := h.2.hit1 int_key map_und hkl (is_id hj)
  simp only [memC] at hlk
  have hB := (Below.refl w.heap.size w).alloc (Nat.le_refl _) (.cells #[.int .i64 m.id, .int .u32 m.ad, .int .i64 m.wt, .bool m.up, .bool m.dr] 216)
  have hx1 := hx.alloc (.cells #[.int .i64 m.id, .int .u32 m.ad, .int .i64 m.wt, .bool m.up, .bool m.dr] 216)
  go_enter Tryz.func169, Tryz.ntmps169
  go_upto_region 4 with (go_at_call 182; refine (made_in h).mono ?_; rintro e w' ⟨rfl, rfl⟩)
  clear hlk c1
  generalize w.alloc (.cells #[.int .i64 m.id, .int .u32 m.ad, .int .i64 m.wt, .bool m.up, .bool m.dr] 216) = w2 at *
  go_wp2_with (go_at_call 180; refine (doWeighBad w2 _ x u hx1 hw).mono ?_; rintro e w3 ⟨rfl, rfl⟩; skip)
  go_ret
  exact ⟨rfl, hB⟩
set_option maxHeartbeats 1000000 in
theorem pWeighBad (w : World) (g b : Nat) (pc : Int) (M : List Mem) (m : Mem) (u : Int) (h : PoolIn w g b pc M) (hj : m ∈ M) (i0 : -9223372036854775808 ≤ m.id) (i1 : m.id ≤ 9223372036854775807) (hw : wtB u = false) :
    Calls Tryz.prog 95 #[.pointer (some ⟨g, 0, none⟩), .int .i64 m.id, .int .i64 u] w fun e w' => e = .returned (.int .i64 2) ∧ Below w.heap.size w w' := by
  have hB := (Below.refl w.heap.size w).alloc (Nat.le_refl _) (.cells #[.int .i64 u] 3)
  have hx := Blk.new w 3 #[.int .i64 u]
  have h1 := h.alloc (.cells #[.int .i64 u] 3)
  go_enter Tryz.func95, Tryz.ntmps95
  go_upto_region 1 with (fail)
  generalize w.alloc (.cells #[.int .i64 u] 3) = w1 at *
  go_wp2_with (refine (changeWeighBad w1 g b _ pc M m u h1 hj i0 i1 hx hw).mono ?_; rintro e w2 ⟨rfl, hb⟩)
  go_ret
  exact ⟨rfl, hB.trans (hb.mono hB.size)⟩
end Go.Proofs.YtgdeecmhhbdjgaaGreat

/- pool: sums of weights; Quorate. -/
namespace Go.Proofs.YtgdeecmhhbdjgaaGreat
set_option linter.unusedVariables false
open Go Go.RowKit Go.Maps Go.MapKept

def iterLeft (w : World) (b r : Nat) : Nat := match w.heap[b]?, w.heap[r]? with
  | some (.map es _), some (.mapIter _ _ seen _) => (leftOf es seen).size
  | _, _ => 0
theorem rng_left {P : Program} {K : TypeId} {w : World} {b r : Nat} {l dn : List (Value × Value)} (h : Rng P K w b r l dn) : iterLeft w b r + dn.length = l.length := by
  obtain ⟨es, clock, since, seen, c0, h1, h2, h3, h4, h5, h6, h7, h8, h9⟩ := h
  have e : iterLeft w b r = (leftOf es seen).size := by unfold iterLeft; rw [h1, h5]
  have := h9.length_eq
  rw [List.length_append, List.length_map] at this
  rw [e]
  simp at this ⊢
  omega
def sumW (so : Mem → Bool) : List Mem → Int
  | [] => 0
  | m :: D => (if so m then m.wt else 0) + sumW so D
theorem sumW_app (so : Mem → Bool) (D : List Mem) (m : Mem) : sumW so (D ++ [m]) = sumW so D + (if so m then m.wt else 0) := by
  induction D with
  | nil => simp [sumW]
  | cons x D ih => rw [List.cons_append, sumW, ih, sumW]; omega
theorem sumW_perm (so : Mem → Bool) {D E : List Mem} (h : D.Perm E) : sumW so D = sumW so E := by
  induction h with
  | nil => rfl
  | cons x _ ih => rw [sumW, sumW, ih]
  | swap x y l => simp only [sumW]; omega
  | trans _ _ h1 h2 => exact h1.trans h2
def MemsOk (M : List Mem) : Prop := M.length ≤ 16 ∧ ∀ m ∈ M, (0 ≤ m.id ∧ m.id ≤ 255) ∧ (0 ≤ m.wt ∧ m.wt ≤ 100)
theorem sumW_bd (so : Mem → Bool) (D : List Mem) (h : ∀ m ∈ D, 0 ≤ m.wt ∧ m.wt ≤ 100) : 0 ≤ sumW so D ∧ sumW so D ≤ 100 * D.length := by
  induction D with
  | nil => simp [sumW]
  | cons x D ih =>
    have h1 := ih fun m hm => h m (List.mem_cons_of_mem _ hm)
    have h2 := h x List.mem_cons_self
    rw [sumW, List.length_cons]
    split <;> omega
theorem memE_perm {D M : List Mem} (h : (D.map memE).Perm (M.map memE)) : D.Perm M := by
  have := h.map memD
  rw [List.map_map, List.map_map] at this
  have e : memD ∘ memE = id := rfl
  rw [e, List.map_id, List.map_id] at this
  exact this
def soAll (_ : Mem) : Bool := true
def soUp (m : Mem) : Bool := m.up && !m.dr
def soUse (m : Mem) : Bool := soUp m && decide (0 < m.wt)
set_option maxRecDepth 100000 in
theorem so_all (w : World) (m : Mem) : Calls Tryz.prog 230 #[.agg #[.int .i64 m.id, .int .u32 m.ad, .int .i64 m.wt, .bool m.up, .bool m.dr]] w fun e w' => e = .returned (.bool (soAll m)) ∧ Below w.heap.size w w' := by
  have hB := (Below.refl w.heap.size w).alloc (Nat.le_refl _) (.cells #[.int .i64 m.id, .int .u32 m.ad, .int .i64 m.wt, .bool m.up, .bool m.dr] 216)
  have hp := Blk.new w 216 #[.int .i64 m.id, .int .u32 m.ad, .int .i64 m.wt, .bool m.up, .bool m.dr]
  go_enter Tryz.func230, Tryz.ntmps230
  go_upto_region 1 with (fail)
  generalize w.alloc (.cells #[.int .i64 m.id, .int .u32 m.ad, .int .i64 m.wt, .bool m.up, .bool m.dr] 216) = w1 at *
  have p3 : w1.cell? ⟨w.heap.size, 3, none⟩ = some (.bool m.up) := hp.cellv 3 rfl
  have p4 : w1.cell? ⟨w.heap.size, 4, none⟩ = some (.bool m.dr) := hp.cellv 4 rfl
  go_wp2_with fail
  all_goals go_ret
  all_goals (refine ⟨ret_bool ?_, hB⟩; simp_all [soAll])
set_option maxRecDepth 100000 in
set_option maxHeartbeats 2000000 in
theorem weight_all (w : World) (g b : Nat) (pc : Int) (M : List Mem) (h : PoolIn w g b pc M) (hM : MemsOk M) :
    Calls Tryz.prog 200 #[.pointer (some ⟨g, 0, none⟩), .func (.func 230) #[] #[]] w fun e w' => e = .returned (.int .i64 (sumW soAll M)) ∧ Below w.heap.size w w' := by
  have c1 : w.cell? ⟨g, 1, none⟩ = some (.map (some b)) := h.1.cellv 1 rfl
  have ltg := h.ltg
  have ltb := h.ltb
  go_enter Tryz.func200, Tryz.ntmps200
  go_wp2_with (first
    | (go_at_call 182; refine (made_in h).mono ?_; rintro e w' ⟨rfl, rfl⟩)
    | (refine wpList_range_ent (by rfl) h.2 map_und (.tmp 13) (by rfl) (by rfl) ?_; intro w1 hr1 hb1))
  simp only [Act.put, zA, zB, zC]
  go_loopw [5, 7] (fun n _ wr => ∃ D : List Mem, n = .int .i64 (sumW soAll D) ∧ Rng Tryz.prog 3 wr b w.heap.size (M.map memE) (D.map memE) ∧ (∀ m ∈ D, m ∈ M) ∧ Below w.heap.size w wr) (fun _ _ wr => iterLeft wr b w.heap.size)
  case atStart => exact ⟨[], rfl, hr1, by simp, hb1⟩
  case round =>
  obtain ⟨D, rfl, hr, hD, hB⟩ := hrel
  have hz := hB.size
  have h2 := h.nx hB
  have ltr := hr.ltr
  have hleft := rng_left hr
  rw [List.length_map, List.length_map] at hleft
  have hsb := sumW_bd soAll D fun m hm => (hM.2 m (hD m hm)).2
  have hM16 := hM.1
  rcases hr.next 0 with ⟨hp, hrun⟩ | ⟨k, v, w2, hrun, hr2, hm, hlen, hg2, hent⟩
  · go_wp2_with fail
    go_ret
    rw [sumW_perm soAll (memE_perm hp)]
    exact ⟨rfl, hB⟩
  · obtain ⟨m, hmM, e⟩ := List.mem_map.1 hm
    injection e with e1 e2
    subst e1
    subst e2
    rw [List.length_map, List.length_map] at hlen
    have hbm := (hM.2 m hmM).2
    have hB2 := below_own hB hg2 hz (Nat.le_refl _)
    have hz2 := hB2.size
    have hB3 := hB2.alloc hz2 (.cells #[.int .i64 m.id, .int .u32 m.ad, .int .i64 m.wt, .bool m.up, .bool m.dr] 216)
    have hr3 := hr2.below (B := w2.heap.size) ((Below.refl w2.heap.size w2).alloc (Nat.le_refl _) (.cells #[.int .i64 m.id, .int .u32 m.ad, .int .i64 m.wt, .bool m.up, .bool m.dr] 216)) hr2.ent.lt hr2.ltr
    have hq := Blk.new w2 216 #[.int .i64 m.id, .int .u32 m.ad, .int .i64 m.wt, .bool m.up, .bool m.dr]
    unfold memC at hrun hent hr2 hr3
    go_upto_region 6 with (fail)
    generalize w2.alloc (.cells #[.int .i64 m.id, .int .u32 m.ad, .int .i64 m.wt, .bool m.up, .bool m.dr] 216) = w3 at *
    have q0 : w3.cell? ⟨w2.heap.size, 0, none⟩ = some (.int .i64 m.id) := hq.cellv 0 rfl
    have q1 : w3.cell? ⟨w2.heap.size, 1, none⟩ = some (.int .u32 m.ad) := hq.cellv 1 rfl
    have q2 : w3.cell? ⟨w2.heap.size, 2, none⟩ = some (.int .i64 m.wt) := hq.cellv 2 rfl
    have q3 : w3.cell? ⟨w2.heap.size, 3, none⟩ = some (.bool m.up) := hq.cellv 3 rfl
    have q4 : w3.cell? ⟨w2.heap.size, 4, none⟩ = some (.bool m.dr) := hq.cellv 4 rfl
    have hD2 : ∀ x ∈ D ++ [m], x ∈ M := by
      intro x hx
      rcases List.mem_append.1 hx with hx | hx
      · exact hD x hx
      · rw [List.mem_singleton.1 hx]; exact hmM
    have hsa := sumW_app soAll D m
    have kw : IntKind.i64.wrap (sumW soAll D + m.wt) = sumW soAll D + m.wt := IntWalk.i64_in _ (by omega)
    have hr4 : Rng Tryz.prog 3 w3 b w.heap.size (M.map memE) ((D ++ [m]).map memE) := by rw [List.map_append]; exact hr3
    clear hr2 hr3 hrun hent hm
    replace hsa := Lib.hid hsa
    go_wp2_with (go_at_call 230; refine (so_all w3 m).mono ?_; rintro e w4 ⟨rfl, hb4⟩; have s2 := (hq.below hb4 hq.lt).cellv 2 rfl; have hB4 := hB3.trans (hb4.mono hB3.size); have hr5 := hr4.nx hb4; have hl5 := rng_left hr5; rw [List.length_map, List.length_map, List.length_append, List.length_singleton] at hl5; cases hso : soAll m)
    · exact ⟨⟨D ++ [m], by rw [hsa.out, hso]; simp, hr5, hD2, hB4⟩, by omega⟩
    · exact ⟨⟨D ++ [m], by rw [hsa.out, hso]; simp, hr5, hD2, hB4⟩, by omega⟩
set_option maxRecDepth 100000 in
theorem so_up (w : World) (m : Mem) : Calls Tryz.prog 201 #[.agg #[.int .i64 m.id, .int .u32 m.ad, .int .i64 m.wt, .bool m.up, .bool m.dr]] w fun e w' => e = .returned (.bool (soUp m)) ∧ Below w.heap.size w w' := by
  have hB := (Below.refl w.heap.size w).alloc (Nat.le_refl _) (.cells #[.int .i64 m.id, .int .u32 m.ad, .int .i64 m.wt, .bool m.up, .bool m.dr] 216)
  have hp := Blk.new w 216 #[.int .i64 m.id, .int .u32 m.ad, .int .i64 m.wt, .bool m.up, .bool m.dr]
  go_enter Tryz.func201, Tryz.ntmps201
  go_upto_region 1 with (fail)
  generalize w.alloc (.cells #[.int .i64 m.id, .int .u32 m.ad, .int .i64 m.wt, .bool m.up, .bool m.dr] 216) = w1 at *
  have p3 : w1.cell? ⟨w.heap.size, 3, none⟩ = some (.bool m.up) := hp.cellv 3 rfl
  have p4 : w1.cell? ⟨w.heap.size, 4, none⟩ = some (.bool m.dr) := hp.cellv 4 rfl
  go_wp2_with fail
  all_goals go_ret
  all_goals (refine ⟨ret_bool ?_, hB⟩; simp_all [soUp])
set_option maxRecDepth 100000 in
set_option maxHeartbeats 2000000 in
theorem weight_up (w : World) (g b : Nat) (pc : Int) (M : List Mem) (h : PoolIn w g b pc M) (hM : MemsOk M) :
    Calls Tryz.prog 200 #[.pointer (some ⟨g, 0, none⟩), .func (.func 201) #[] #[]] w fun e w' => e = .returned (.int .i64 (sumW soUp M)) ∧ Below w.heap.size w w' := by
  have c1 : w.cell? ⟨g, 1, none⟩ = some (.map (some b)) := h.1.cellv 1 rfl
  have ltg := h.ltg
  have ltb := h.ltb
  go_enter Tryz.func200, Tryz.ntmps200
  go_wp2_with (first
    | (go_at_call 182; refine (made_in h).mono ?_; rintro e w' ⟨rfl, rfl⟩)
    | (refine wpList_range_ent (by rfl) h.2 map_und (.tmp 13) (by rfl) (by rfl) ?_; intro w1 hr1 hb1))
  simp only [Act.put, zA, zB, zC]
  go_loopw [5, 7] (fun n _ wr => ∃ D : List Mem, n = .int .i64 (sumW soUp D) ∧ Rng Tryz.prog 3 wr b w.heap.size (M.map memE) (D.map memE) ∧ (∀ m ∈ D, m ∈ M) ∧ Below w.heap.size w wr) (fun _ _ wr => iterLeft wr b w.heap.size)
  case atStart => exact ⟨[], rfl, hr1, by simp, hb1⟩
  case round =>
  obtain ⟨D, rfl, hr, hD, hB⟩ := hrel
  have hz := hB.size
  have h2 := h.nx hB
  have ltr := hr.ltr
  have hleft := rng_left hr
  rw [List.length_map, List.length_map] at hleft
  have hsb := sumW_bd soUp D fun m hm => (hM.2 m (hD m hm)).2
  have hM16 := hM.1
  rcases hr.next 0 with ⟨hp, hrun⟩ | ⟨k, v, w2, hrun, hr2, hm, hlen, hg2, hent⟩
  · go_wp2_with fail
    go_ret
    rw [sumW_perm soUp (memE_perm hp)]
    exact ⟨rfl, hB⟩
  · obtain ⟨m, hmM, e⟩ := List.mem_map.1 hm
    injection e with e1 e2
    subst e1
    subst e2
    rw [List.length_map, List.length_map] at hlen
    have hbm := (hM.2 m hmM).2
    have hB2 := below_own hB hg2 hz (Nat.le_refl _)
    have hz2 := hB2.size
    have hB3 := hB2.alloc hz2 (.cells #[.int .i64 m.id, .int .u32 m.ad, .int .i64 m.wt, .bool m.up, .bool m.dr] 216)
    have hr3 := hr2.below (B := w2.heap.size) ((Below.refl w2.heap.size w2).alloc (Nat.le_refl _) (.cells #[.int .i64 m.id, .int .u32 m.ad, .int .i64 m.wt, .bool m.up, .bool m.dr] 216)) hr2.ent.lt hr2.ltr
    have hq := Blk.new w2 216 #[.int .i64 m.id, .int .u32 m.ad, .int .i64 m.wt, .bool m.up, .bool m.dr]
    unfold memC at hrun hent hr2 hr3
    go_upto_region 6 with (fail)
    generalize w2.alloc (.cells #[.int .i64 m.id, .int .u32 m.ad, .int .i64 m.wt, .bool m.up, .bool m.dr] 216) = w3 at *
    have q0 : w3.cell? ⟨w2.heap.size, 0, none⟩ = some (.int .i64 m.id) := hq.cellv 0 rfl
    have q1 : w3.cell? ⟨w2.heap.size, 1, none⟩ = some (.int .u32 m.ad) := hq.cellv 1 rfl
    have q2 : w3.cell? ⟨w2.heap.size, 2, none⟩ = some (.int .i64 m.wt) := hq.cellv 2 rfl
    have q3 : w3.cell? ⟨w2.heap.size, 3, none⟩ = some (.bool m.up) := hq.cellv 3 rfl
    have q4 : w3.cell? ⟨w2.heap.size, 4, none⟩ = some (.bool m.dr) := hq.cellv 4 rfl
    have hD2 : ∀ x ∈ D ++ [m], x ∈ M := by
      intro x hx
      rcases List.mem_append.1 hx with hx | hx
      · exact hD x hx
      · rw [List.mem_singleton.1 hx]; exact hmM
    have hsa := sumW_app soUp D m
    have kw : IntKind.i64.wrap (sumW soUp D + m.wt) = sumW soUp D + m.wt := IntWalk.i64_in _ (by omega)
    have hr4 : Rng Tryz.prog 3 w3 b w.heap.size (M.map memE) ((D ++ [m]).map memE) := by rw [List.map_append]; exact hr3
    clear hr2 hr3 hrun hent hm
    replace hsa := Lib.hid hsa
    go_wp2_with (go_at_call 201; refine (so_up w3 m).mono ?_; rintro e w4 ⟨rfl, hb4⟩; have s2 := (hq.below hb4 hq.lt).cellv 2 rfl; have hB4 := hB3.trans (hb4.mono hB3.size); have hr5 := hr4.nx hb4; have hl5 := rng_left hr5; rw [List.length_map, List.length_map, List.length_append, List.length_singleton] at hl5; cases hso : soUp m)
    · exact ⟨⟨D ++ [m], by rw [hsa.out, hso]; simp, hr5, hD2, hB4⟩, by omega⟩
    · exact ⟨⟨D ++ [m], by rw [hsa.out, hso]; simp, hr5, hD2, hB4⟩, by omega⟩
end Go.Proofs.YtgdeecmhhbdjgaaGreat
