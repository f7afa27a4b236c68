/- pool: Mark, Drain, Weigh. -/
import Derived.Test.YtejgekoinbdhjaaPoB
namespace Go.Proofs.Ytejgekoinbdhjaa
set_option linter.unusedVariables false
open Go Go.RowKit Go.Maps

theorem ent_ne {w : World} {b x : Nat} {l : List (Value × Value)} {T : TypeId} {cs : Array Value} (h : Ent Try.prog 3 w b l) (hx : Blk w x T cs) : x ≠ b := by
  intro e
  obtain ⟨es, c, h2, _⟩ := h
  unfold Blk at hx
  rw [e, h2] at hx
  cases hx
set_option maxRecDepth 100000 in
set_option maxHeartbeats 2000000 in
theorem changeNone (w : World) (g b : Nat) (pc : Int) (M : List Mem) (id : Int) (f : Fn) (x : Nat) (h : PoolIn w g b pc M) (i0 : -9223372036854775808 ≤ id) (i1 : id ≤ 9223372036854775807) (hnot : ∀ m ∈ M, m.id ≠ id) :
    Calls Try.prog 89 #[.pointer (some ⟨g, 0, none⟩), .int .i64 id, .func f #[] #[.pointer (some ⟨x, 0, none⟩)]] w fun e w' => e = .returned (.int .i64 7) ∧ Below w.heap.size w w' := by
  have c1 : w.cell? ⟨g, 1, none⟩ = some (.map (some b)) := h.1.cellv 1 rfl
  have hlk := h.2.miss1 int_key map_und mem_zero (int_lit id i0 i1) (no_id hnot)
  have hB := (Below.refl w.heap.size w).alloc (Nat.le_refl _) (.cells #[.int .i64 0, .int .u32 0, .int .i64 0, .bool false, .bool false] 157)
  go_enter Try.func89, Try.ntmps89
  go_wp2_with (go_at_call 87; refine (made_in h).mono ?_; rintro e w' ⟨rfl, rfl⟩)
  go_ret
  exact ⟨rfl, hB⟩
theorem changeNil (w : World) (id : Int) (v : Value) :
    Calls Try.prog 89 #[.pointer none, .int .i64 id, v] w fun e w' => e = .returned (.int .i64 1) ∧ w = w' := by
  go_enter Try.func89, Try.ntmps89
  go_wp2_with (go_at_call 87; refine (made_nil _).mono ?_; rintro e w' ⟨rfl, rfl⟩)
  go_ret
  exact ⟨rfl, rfl⟩
theorem changeZero (w : World) (g : Nat) (pc : Int) (h : Blk w g 31 #[.int .i64 pc, .map none]) (id : Int) (v : Value) :
    Calls Try.prog 89 #[.pointer (some ⟨g, 0, none⟩), .int .i64 id, v] w fun e w' => e = .returned (.int .i64 1) ∧ w = w' := by
  go_enter Try.func89, Try.ntmps89
  go_wp2_with (go_at_call 87; refine (made_zero _ _ _ h).mono ?_; rintro e w' ⟨rfl, rfl⟩)
  go_ret
  exact ⟨rfl, rfl⟩
set_option maxRecDepth 100000 in
theorem doMark (w : World) (r x : Nat) (m : Mem) (u : Bool) (hr : Blk w r 157 (memC m)) (hx : Blk w x 4 #[.bool u]) :
    Calls Try.prog 91 #[.pointer (some ⟨r, 0, none⟩), .pointer (some ⟨x, 0, none⟩)] w fun e w' => e = .returned (.int .i64 0) ∧ Blk w' r 157 (memC { m with up := u }) ∧ w.grownBy w' (some r) := by
  have c0 : w.cell? ⟨x, 0, none⟩ = some (.bool u) := hx.cellv 0 rfl
  have c1 : w.cell? ⟨r, 3, none⟩ = (memC m)[3]? := hr.cell 3
  simp only [memC] at c1
  have f1 := hr.frozen 3
  obtain ⟨h2, g2⟩ := blk_store hr 3 (.bool u)
  replace h2 : Blk (w.setCell ⟨r, 3, none⟩ (.bool u)) r 157 (memC { m with up := u }) := h2
  replace h2 := Lib.hid h2
  replace g2 := Lib.hid g2
  go_enter Try.func91, Try.ntmps91
  go_wp2_with fail
  go_ret
  exact ⟨rfl, h2.out, g2.out⟩
set_option maxRecDepth 100000 in
set_option maxHeartbeats 2000000 in
theorem changeMark (w : World) (g b x : Nat) (pc : Int) (M : List Mem) (j : Nat) (m : Mem) (u : Bool) (h : PoolIn w g b pc M) (hj : M[j]? = some m) (i0 : -9223372036854775808 ≤ m.id) (i1 : m.id ≤ 9223372036854775807) (hx : Blk w x 4 #[.bool u]) :
    Calls Try.prog 89 #[.pointer (some ⟨g, 0, none⟩), .int .i64 m.id, .func (.func 91) #[] #[.pointer (some ⟨x, 0, none⟩)]] w fun e w' => e = .returned (.int .i64 0) ∧ PoolIn w' g b pc (M.set j { m with up := u }) ∧ w.grownBy w' (some b) := by
  have c1 : w.cell? ⟨g, 1, none⟩ = some (.map (some b)) := h.1.cellv 1 rfl
  have hkl := int_lit m.id i0 i1
  have hlk := h.2.hit1 int_key map_und hkl (is_id (List.mem_of_getElem? hj))
  simp only [memC] at hlk
  have hB := (Below.refl w.heap.size w).alloc (Nat.le_refl _) (.cells (memC m) 157)
  have hr := Blk.new w 157 (memC m)
  have h1 := h.alloc (.cells (memC m) 157)
  have hx1 := hx.alloc (.cells (memC m) 157)
  simp only [memC] at hB
  have hma : w.alloc (.cells #[.int .i64 m.id, .int .u32 m.ad, .int .i64 m.wt, .bool m.up, .bool m.dr] 157) = w.alloc (.cells (memC m) 157) := rfl
  go_enter Try.func89, Try.ntmps89
  go_upto_region 4 with (go_at_call 87; refine (made_in h).mono ?_; rintro e w' ⟨rfl, rfl⟩)
  try rw [hma]
  rw [hma] at hB
  clear hma hlk c1
  generalize w.alloc (.cells (memC m) 157) = w2 at *
  go_wp2_with (go_at_call 91; refine (doMark w2 _ x m u hr hx1).mono ?_; rintro e w3 ⟨rfl, hr3, hg3⟩; skip)
  have ltb0 := h.ltb
  have ltg0 := h.ltg
  have ltr := hr3.lt
  have h3 := h1.grown hg3 (by simp; omega) (by simp; omega)
  have ltb := h3.ltb
  have ltg := h3.ltg
  have hgb : g ≠ b := h.ne
  have hrb : w.heap.size ≠ b := by omega
  have c1 : w3.cell? ⟨g, 1, none⟩ = some (.map (some b)) := h3.1.cellv 1 rfl
  have hB3 := below_own hB hg3 hB.size (Nat.le_refl _)
  have hjE : (M.map memE)[j]? = some (.int .i64 m.id, .agg (memC m)) := by rw [List.getElem?_map, hj]; rfl
  unfold memC at hr3
  simp only at hr3
  -- region 8: 0 1 2 3 4 5 6M
  try refine wp_region_noPanic ?_
  have hs1r : w3.grownBy w3.drew (some b) := grown_drew (grown_refl _ _)
  refine wp_region_held_drew (S := fun w' => w3.grownBy w' (some b)) (by kernel_rfl) hs1r (fun _ => ?_)
  (refine held_takeA 0 (by rfl) ?_ (by kernel_rfl) (fun _ _ _ h => h) hs1r ?_ ?_; rotate_left; (focus (intro wq hSw; have hrd : ∀ b' o, b' < w3.heap.size → b' ≠ b → wq.cell? ⟨b', o, none⟩ = w3.cell? ⟨b', o, none⟩ := (fun b' o h hne => grown_cell hSw h hne); go_simp; try with_reducible rfl; done)); try simp only [Act.put, List.setIfInBounds_toArray, List.set_cons_zero, List.set_cons_succ])
  (refine held_takeA 1 (by rfl) ?_ (by kernel_rfl) (fun _ _ _ h => h) hs1r ?_ ?_; rotate_left; (focus (intro wq hSw; have hrd : ∀ b' o, b' < w3.heap.size → b' ≠ b → wq.cell? ⟨b', o, none⟩ = w3.cell? ⟨b', o, none⟩ := (fun b' o h hne => grown_cell hSw h hne); go_simp; try with_reducible rfl; done)); try simp only [Act.put, List.setIfInBounds_toArray, List.set_cons_zero, List.set_cons_succ])
  (refine held_takeA 2 (by rfl) ?_ (by kernel_rfl) (fun _ _ _ h => h) hs1r ?_ ?_; rotate_left; (focus (intro wq hSw; have hrd : ∀ b' o, b' < w3.heap.size → b' ≠ b → wq.cell? ⟨b', o, none⟩ = w3.cell? ⟨b', o, none⟩ := (fun b' o h hne => grown_cell hSw h hne); go_simp; try with_reducible rfl; done)); try simp only [Act.put, List.setIfInBounds_toArray, List.set_cons_zero, List.set_cons_succ])
  (refine held_takeA 3 (by rfl) ?_ (by kernel_rfl) (fun _ _ _ h => h) hs1r ?_ ?_; rotate_left; (focus (intro wq hSw; have hrd : ∀ b' o, b' < w3.heap.size → b' ≠ b → wq.cell? ⟨b', o, none⟩ = w3.cell? ⟨b', o, none⟩ := (fun b' o h hne => grown_cell hSw h hne); go_simp; try with_reducible rfl; done)); try simp only [Act.put, List.setIfInBounds_toArray, List.set_cons_zero, List.set_cons_succ])
  (refine held_takeA 4 (by rfl) ?_ (by kernel_rfl) (fun _ _ _ h => h) hs1r ?_ ?_; rotate_left; (focus (intro wq hSw; have hrd : ∀ b' o, b' < w3.heap.size → b' ≠ b → wq.cell? ⟨b', o, none⟩ = w3.cell? ⟨b', o, none⟩ := (fun b' o h hne => grown_cell hSw h hne); go_simp; try with_reducible rfl; done)); try simp only [Act.put, List.setIfInBounds_toArray, List.set_cons_zero, List.set_cons_succ])
  (refine held_takeA 5 (by rfl) ?_ (by kernel_rfl) (fun _ _ _ h => h) hs1r ?_ ?_; rotate_left; (focus (intro wq hSw; refine exec_load_blk (x := .tmp 7) ?_ ?_ (hr3.grown hSw (by simp; omega)) _ Try.underlying157 rfl (by kernel_rfl) <;> rfl)); simp only [Act.put, List.setIfInBounds_toArray, List.set_cons_zero, List.set_cons_succ])
  refine held_callA 6 (by rfl) (by kernel_rfl) (by rfl) (fun KQ hKQ => ?_)
  refine wp_put_old (key := .int .i64 m.id) (val := .agg (memC { m with up := u })) h3.2.drew int_key map_und (.tmp 31) (.tmp 32) (.tmp 33) (by rfl) (by rfl) (by rfl) (by rfl) hkl hjE ?_
  intro w4 he4 hg4
  refine hKQ.out _ _ (grown_trans hs1r hg4) (held_mono (S' := fun w' => w4.grownBy w' (some b)) (fun w' h => grown_trans (grown_trans hs1r hg4) h) _ _ _ _ ?_)
  clear hKQ KQ
  replace hr3 := hr3.grown (grown_trans hs1r hg4) (by simp; omega)
  have hs2r : w4.grownBy w4 (some b) := grown_refl _ _
  try simp only [Act.put]
  refine wpAnyH_done (by kernel_rfl) ?_ _
  try refine NoPanic.normal ?_
  go_wp2_with fail
  go_ret
  have hg5 : w3.grownBy w4 (some b) := grown_trans (grown_drew (grown_refl w3 (some b))) hg4
  refine ⟨rfl, ⟨h3.1.grown hg5 (by simp; omega), ?_⟩, grown_trans (grown_of_below hB3 (Nat.le_refl _) _) hg5⟩
  rw [List.map_set]
  exact he4
set_option maxHeartbeats 1000000 in
theorem pMark (w : World) (g b : Nat) (pc : Int) (M : List Mem) (j : Nat) (m : Mem) (u : Bool) (h : PoolIn w g b pc M) (hj : M[j]? = some m) (i0 : -9223372036854775808 ≤ m.id) (i1 : m.id ≤ 9223372036854775807) :
    Calls Try.prog 23 #[.pointer (some ⟨g, 0, none⟩), .int .i64 m.id, .bool u] w fun e w' => e = .returned (.int .i64 0) ∧ PoolIn w' g b pc (M.set j { m with up := u }) ∧ w.grownBy w' (some b) := by
  have hB := (Below.refl w.heap.size w).alloc (Nat.le_refl _) (.cells #[.bool u] 4)
  have hx := Blk.new w 4 #[.bool u]
  have h1 := h.alloc (.cells #[.bool u] 4)
  go_enter Try.func23, Try.ntmps23
  go_upto_region 1 with (fail)
  generalize w.alloc (.cells #[.bool u] 4) = w1 at *
  go_wp2_with (refine (changeMark w1 g b _ pc M j m u h1 hj i0 i1 hx).mono ?_; rintro e w2 ⟨rfl, h2, hg2⟩)
  go_ret
  exact ⟨rfl, h2, grown_trans (grown_of_below hB (Nat.le_refl _) _) hg2⟩
set_option maxHeartbeats 1000000 in
theorem pMarkNo (w : World) (g b : Nat) (pc : Int) (M : List Mem) (id : Int) (u : Bool) (h : PoolIn w g b pc M) (i0 : -9223372036854775808 ≤ id) (i1 : id ≤ 9223372036854775807) (hnot : ∀ m ∈ M, m.id ≠ id) :
    Calls Try.prog 23 #[.pointer (some ⟨g, 0, none⟩), .int .i64 id, .bool u] w fun e w' => e = .returned (.int .i64 7) ∧ Below w.heap.size w w' := by
  have hB := (Below.refl w.heap.size w).alloc (Nat.le_refl _) (.cells #[.bool u] 4)
  have h1 := h.alloc (.cells #[.bool u] 4)
  go_enter Try.func23, Try.ntmps23
  go_upto_region 1 with (fail)
  generalize w.alloc (.cells #[.bool u] 4) = w1 at *
  go_wp2_with (refine (changeNone w1 g b pc M id _ _ h1 i0 i1 hnot).mono ?_; rintro e w2 ⟨rfl, hb⟩)
  go_ret
  exact ⟨rfl, hB.trans (hb.mono hB.size)⟩
set_option maxHeartbeats 1000000 in
theorem pMarkNil (w : World) (id : Int) (u : Bool) :
    Calls Try.prog 23 #[.pointer none, .int .i64 id, .bool u] w fun e w' => e = .returned (.int .i64 1) ∧ Below w.heap.size w w' := by
  have hB := (Below.refl w.heap.size w).alloc (Nat.le_refl _) (.cells #[.bool u] 4)
  go_enter Try.func23, Try.ntmps23
  go_upto_region 1 with (fail)
  generalize w.alloc (.cells #[.bool u] 4) = w1 at *
  go_wp2_with (refine (changeNil w1 id _).mono ?_; rintro e w2 ⟨rfl, rfl⟩)
  go_ret
  exact ⟨rfl, hB⟩
set_option maxHeartbeats 1000000 in
theorem pMarkZero (w : World) (g : Nat) (pc : Int) (h : Blk w g 31 #[.int .i64 pc, .map none]) (id : Int) (u : Bool) :
    Calls Try.prog 23 #[.pointer (some ⟨g, 0, none⟩), .int .i64 id, .bool u] w fun e w' => e = .returned (.int .i64 1) ∧ Below w.heap.size w w' := by
  have hB := (Below.refl w.heap.size w).alloc (Nat.le_refl _) (.cells #[.bool u] 4)
  have h1 := h.alloc (.cells #[.bool u] 4)
  go_enter Try.func23, Try.ntmps23
  go_upto_region 1 with (fail)
  generalize w.alloc (.cells #[.bool u] 4) = w1 at *
  go_wp2_with (refine (changeZero w1 g pc h1 id _).mono ?_; rintro e w2 ⟨rfl, rfl⟩)
  go_ret
  exact ⟨rfl, hB⟩
set_option maxRecDepth 100000 in
theorem doDrain (w : World) (r x : Nat) (m : Mem) (u : Bool) (hr : Blk w r 157 (memC m)) (hx : Blk w x 4 #[.bool u]) :
    Calls Try.prog 92 #[.pointer (some ⟨r, 0, none⟩), .pointer (some ⟨x, 0, none⟩)] w fun e w' => e = .returned (.int .i64 0) ∧ Blk w' r 157 (memC { m with dr := u }) ∧ w.grownBy w' (some r) := by
  have c0 : w.cell? ⟨x, 0, none⟩ = some (.bool u) := hx.cellv 0 rfl
  have c1 : w.cell? ⟨r, 4, none⟩ = (memC m)[4]? := hr.cell 4
  simp only [memC] at c1
  have f1 := hr.frozen 4
  obtain ⟨h2, g2⟩ := blk_store hr 4 (.bool u)
  replace h2 : Blk (w.setCell ⟨r, 4, none⟩ (.bool u)) r 157 (memC { m with dr := u }) := h2
  replace h2 := Lib.hid h2
  replace g2 := Lib.hid g2
  go_enter Try.func92, Try.ntmps92
  go_wp2_with fail
  go_ret
  exact ⟨rfl, h2.out, g2.out⟩
set_option maxRecDepth 100000 in
set_option maxHeartbeats 2000000 in
theorem changeDrain (w : World) (g b x : Nat) (pc : Int) (M : List Mem) (j : Nat) (m : Mem) (u : Bool) (h : PoolIn w g b pc M) (hj : M[j]? = some m) (i0 : -9223372036854775808 ≤ m.id) (i1 : m.id ≤ 9223372036854775807) (hx : Blk w x 4 #[.bool u]) :
    Calls Try.prog 89 #[.pointer (some ⟨g, 0, none⟩), .int .i64 m.id, .func (.func 92) #[] #[.pointer (some ⟨x, 0, none⟩)]] w fun e w' => e = .returned (.int .i64 0) ∧ PoolIn w' g b pc (M.set j { m with dr := u }) ∧ w.grownBy w' (some b) := by
  have c1 : w.cell? ⟨g, 1, none⟩ = some (.map (some b)) := h.1.cellv 1 rfl
  have hkl := int_lit m.id i0 i1
  have hlk := h.2.hit1 int_key map_und hkl (is_id (List.mem_of_getElem? hj))
  simp only [memC] at hlk
  have hB := (Below.refl w.heap.size w).alloc (Nat.le_refl _) (.cells (memC m) 157)
  have hr := Blk.new w 157 (memC m)
  have h1 := h.alloc (.cells (memC m) 157)
  have hx1 := hx.alloc (.cells (memC m) 157)
  simp only [memC] at hB
  have hma : w.alloc (.cells #[.int .i64 m.id, .int .u32 m.ad, .int .i64 m.wt, .bool m.up, .bool m.dr] 157) = w.alloc (.cells (memC m) 157) := rfl
  go_enter Try.func89, Try.ntmps89
  go_upto_region 4 with (go_at_call 87; refine (made_in h).mono ?_; rintro e w' ⟨rfl, rfl⟩)
  try rw [hma]
  rw [hma] at hB
  clear hma hlk c1
  generalize w.alloc (.cells (memC m) 157) = w2 at *
  go_wp2_with (go_at_call 92; refine (doDrain w2 _ x m u hr hx1).mono ?_; rintro e w3 ⟨rfl, hr3, hg3⟩; skip)
  have ltb0 := h.ltb
  have ltg0 := h.ltg
  have ltr := hr3.lt
  have h3 := h1.grown hg3 (by simp; omega) (by simp; omega)
  have ltb := h3.ltb
  have ltg := h3.ltg
  have hgb : g ≠ b := h.ne
  have hrb : w.heap.size ≠ b := by omega
  have c1 : w3.cell? ⟨g, 1, none⟩ = some (.map (some b)) := h3.1.cellv 1 rfl
  have hB3 := below_own hB hg3 hB.size (Nat.le_refl _)
  have hjE : (M.map memE)[j]? = some (.int .i64 m.id, .agg (memC m)) := by rw [List.getElem?_map, hj]; rfl
  unfold memC at hr3
  simp only at hr3
  -- region 8: 0 1 2 3 4 5 6M
  try refine wp_region_noPanic ?_
  have hs3r : w3.grownBy w3.drew (some b) := grown_drew (grown_refl _ _)
  refine wp_region_held_drew (S := fun w' => w3.grownBy w' (some b)) (by kernel_rfl) hs3r (fun _ => ?_)
  (refine held_takeA 0 (by rfl) ?_ (by kernel_rfl) (fun _ _ _ h => h) hs3r ?_ ?_; rotate_left; (focus (intro wq hSw; have hrd : ∀ b' o, b' < w3.heap.size → b' ≠ b → wq.cell? ⟨b', o, none⟩ = w3.cell? ⟨b', o, none⟩ := (fun b' o h hne => grown_cell hSw h hne); go_simp; try with_reducible rfl; done)); try simp only [Act.put, List.setIfInBounds_toArray, List.set_cons_zero, List.set_cons_succ])
  (refine held_takeA 1 (by rfl) ?_ (by kernel_rfl) (fun _ _ _ h => h) hs3r ?_ ?_; rotate_left; (focus (intro wq hSw; have hrd : ∀ b' o, b' < w3.heap.size → b' ≠ b → wq.cell? ⟨b', o, none⟩ = w3.cell? ⟨b', o, none⟩ := (fun b' o h hne => grown_cell hSw h hne); go_simp; try with_reducible rfl; done)); try simp only [Act.put, List.setIfInBounds_toArray, List.set_cons_zero, List.set_cons_succ])
  (refine held_takeA 2 (by rfl) ?_ (by kernel_rfl) (fun _ _ _ h => h) hs3r ?_ ?_; rotate_left; (focus (intro wq hSw; have hrd : ∀ b' o, b' < w3.heap.size → b' ≠ b → wq.cell? ⟨b', o, none⟩ = w3.cell? ⟨b', o, none⟩ := (fun b' o h hne => grown_cell hSw h hne); go_simp; try with_reducible rfl; done)); try simp only [Act.put, List.setIfInBounds_toArray, List.set_cons_zero, List.set_cons_succ])
  (refine held_takeA 3 (by rfl) ?_ (by kernel_rfl) (fun _ _ _ h => h) hs3r ?_ ?_; rotate_left; (focus (intro wq hSw; have hrd : ∀ b' o, b' < w3.heap.size → b' ≠ b → wq.cell? ⟨b', o, none⟩ = w3.cell? ⟨b', o, none⟩ := (fun b' o h hne => grown_cell hSw h hne); go_simp; try with_reducible rfl; done)); try simp only [Act.put, List.setIfInBounds_toArray, List.set_cons_zero, List.set_cons_succ])
  (refine held_takeA 4 (by rfl) ?_ (by kernel_rfl) (fun _ _ _ h => h) hs3r ?_ ?_; rotate_left; (focus (intro wq hSw; have hrd : ∀ b' o, b' < w3.heap.size → b' ≠ b → wq.cell? ⟨b', o, none⟩ = w3.cell? ⟨b', o, none⟩ := (fun b' o h hne => grown_cell hSw h hne); go_simp; try with_reducible rfl; done)); try simp only [Act.put, List.setIfInBounds_toArray, List.set_cons_zero, List.set_cons_succ])
  (refine held_takeA 5 (by rfl) ?_ (by kernel_rfl) (fun _ _ _ h => h) hs3r ?_ ?_; rotate_left; (focus (intro wq hSw; refine exec_load_blk (x := .tmp 7) ?_ ?_ (hr3.grown hSw (by simp; omega)) _ Try.underlying157 rfl (by kernel_rfl) <;> rfl)); simp only [Act.put, List.setIfInBounds_toArray, List.set_cons_zero, List.set_cons_succ])
  refine held_callA 6 (by rfl) (by kernel_rfl) (by rfl) (fun KQ hKQ => ?_)
  refine wp_put_old (key := .int .i64 m.id) (val := .agg (memC { m with dr := u })) h3.2.drew int_key map_und (.tmp 31) (.tmp 32) (.tmp 33) (by rfl) (by rfl) (by rfl) (by rfl) hkl hjE ?_
  intro w4 he4 hg4
  refine hKQ.out _ _ (grown_trans hs3r hg4) (held_mono (S' := fun w' => w4.grownBy w' (some b)) (fun w' h => grown_trans (grown_trans hs3r hg4) h) _ _ _ _ ?_)
  clear hKQ KQ
  replace hr3 := hr3.grown (grown_trans hs3r hg4) (by simp; omega)
  have hs4r : w4.grownBy w4 (some b) := grown_refl _ _
  try simp only [Act.put]
  refine wpAnyH_done (by kernel_rfl) ?_ _
  try refine NoPanic.normal ?_
  go_wp2_with fail
  go_ret
  have hg5 : w3.grownBy w4 (some b) := grown_trans (grown_drew (grown_refl w3 (some b))) hg4
  refine ⟨rfl, ⟨h3.1.grown hg5 (by simp; omega), ?_⟩, grown_trans (grown_of_below hB3 (Nat.le_refl _) _) hg5⟩
  rw [List.map_set]
  exact he4
set_option maxHeartbeats 1000000 in
theorem pDrain (w : World) (g b : Nat) (pc : Int) (M : List Mem) (j : Nat) (m : Mem) (u : Bool) (h : PoolIn w g b pc M) (hj : M[j]? = some m) (i0 : -9223372036854775808 ≤ m.id) (i1 : m.id ≤ 9223372036854775807) :
    Calls Try.prog 24 #[.pointer (some ⟨g, 0, none⟩), .int .i64 m.id, .bool u] w fun e w' => e = .returned (.int .i64 0) ∧ PoolIn w' g b pc (M.set j { m with dr := u }) ∧ w.grownBy w' (some b) := by
  have hB := (Below.refl w.heap.size w).alloc (Nat.le_refl _) (.cells #[.bool u] 4)
  have hx := Blk.new w 4 #[.bool u]
  have h1 := h.alloc (.cells #[.bool u] 4)
  go_enter Try.func24, Try.ntmps24
  go_upto_region 1 with (fail)
  generalize w.alloc (.cells #[.bool u] 4) = w1 at *
  go_wp2_with (refine (changeDrain w1 g b _ pc M j m u h1 hj i0 i1 hx).mono ?_; rintro e w2 ⟨rfl, h2, hg2⟩)
  go_ret
  exact ⟨rfl, h2, grown_trans (grown_of_below hB (Nat.le_refl _) _) hg2⟩
set_option maxHeartbeats 1000000 in
theorem pDrainNo (w : World) (g b : Nat) (pc : Int) (M : List Mem) (id : Int) (u : Bool) (h : PoolIn w g b pc M) (i0 : -9223372036854775808 ≤ id) (i1 : id ≤ 9223372036854775807) (hnot : ∀ m ∈ M, m.id ≠ id) :
    Calls Try.prog 24 #[.pointer (some ⟨g, 0, none⟩), .int .i64 id, .bool u] w fun e w' => e = .returned (.int .i64 7) ∧ Below w.heap.size w w' := by
  have hB := (Below.refl w.heap.size w).alloc (Nat.le_refl _) (.cells #[.bool u] 4)
  have h1 := h.alloc (.cells #[.bool u] 4)
  go_enter Try.func24, Try.ntmps24
  go_upto_region 1 with (fail)
  generalize w.alloc (.cells #[.bool u] 4) = w1 at *
  go_wp2_with (refine (changeNone w1 g b pc M id _ _ h1 i0 i1 hnot).mono ?_; rintro e w2 ⟨rfl, hb⟩)
  go_ret
  exact ⟨rfl, hB.trans (hb.mono hB.size)⟩
set_option maxHeartbeats 1000000 in
theorem pDrainNil (w : World) (id : Int) (u : Bool) :
    Calls Try.prog 24 #[.pointer none, .int .i64 id, .bool u] w fun e w' => e = .returned (.int .i64 1) ∧ Below w.heap.size w w' := by
  have hB := (Below.refl w.heap.size w).alloc (Nat.le_refl _) (.cells #[.bool u] 4)
  go_enter Try.func24, Try.ntmps24
  go_upto_region 1 with (fail)
  generalize w.alloc (.cells #[.bool u] 4) = w1 at *
  go_wp2_with (refine (changeNil w1 id _).mono ?_; rintro e w2 ⟨rfl, rfl⟩)
  go_ret
  exact ⟨rfl, hB⟩
set_option maxHeartbeats 1000000 in
theorem pDrainZero (w : World) (g : Nat) (pc : Int) (h : Blk w g 31 #[.int .i64 pc, .map none]) (id : Int) (u : Bool) :
    Calls Try.prog 24 #[.pointer (some ⟨g, 0, none⟩), .int .i64 id, .bool u] w fun e w' => e = .returned (.int .i64 1) ∧ Below w.heap.size w w' := by
  have hB := (Below.refl w.heap.size w).alloc (Nat.le_refl _) (.cells #[.bool u] 4)
  have h1 := h.alloc (.cells #[.bool u] 4)
  go_enter Try.func24, Try.ntmps24
  go_upto_region 1 with (fail)
  generalize w.alloc (.cells #[.bool u] 4) = w1 at *
  go_wp2_with (refine (changeZero w1 g pc h1 id _).mono ?_; rintro e w2 ⟨rfl, rfl⟩)
  go_ret
  exact ⟨rfl, hB⟩
set_option maxRecDepth 100000 in
theorem doWeigh (w : World) (r x : Nat) (m : Mem) (u : Int) (hr : Blk w r 157 (memC m)) (hx : Blk w x 3 #[.int .i64 u]) (hw : wtB u = true) :
    Calls Try.prog 90 #[.pointer (some ⟨r, 0, none⟩), .pointer (some ⟨x, 0, none⟩)] w fun e w' => e = .returned (.int .i64 0) ∧ Blk w' r 157 (memC { m with wt := u }) ∧ w.grownBy w' (some r) := by
  have c0 : w.cell? ⟨x, 0, none⟩ = some (.int .i64 u) := hx.cellv 0 rfl
  have c1 : w.cell? ⟨r, 2, none⟩ = (memC m)[2]? := hr.cell 2
  simp only [memC] at c1
  have f1 := hr.frozen 2
  obtain ⟨h2, g2⟩ := blk_store hr 2 (.int .i64 u)
  replace h2 : Blk (w.setCell ⟨r, 2, none⟩ (.int .i64 u)) r 157 (memC { m with wt := u }) := h2
  replace h2 := Lib.hid h2
  replace g2 := Lib.hid g2
  go_enter Try.func90, Try.ntmps90
  go_wp2_with  (go_at_call 88; refine (isWeight_any _ _).mono ?_; rintro e w' ⟨rfl, rfl⟩; rw [hw])
  go_ret
  exact ⟨rfl, h2.out, g2.out⟩
set_option maxRecDepth 100000 in
set_option maxHeartbeats 2000000 in
theorem changeWeigh (w : World) (g b x : Nat) (pc : Int) (M : List Mem) (j : Nat) (m : Mem) (u : Int) (h : PoolIn w g b pc M) (hj : M[j]? = some m) (i0 : -9223372036854775808 ≤ m.id) (i1 : m.id ≤ 9223372036854775807) (hx : Blk w x 3 #[.int .i64 u]) (hw : wtB u = true) :
    Calls Try.prog 89 #[.pointer (some ⟨g, 0, none⟩), .int .i64 m.id, .func (.func 90) #[] #[.pointer (some ⟨x, 0, none⟩)]] w fun e w' => e = .returned (.int .i64 0) ∧ PoolIn w' g b pc (M.set j { m with wt := u }) ∧ w.grownBy w' (some b) := by
  have c1 : w.cell? ⟨g, 1, none⟩ = some (.map (some b)) := h.1.cellv 1 rfl
  have hkl := int_lit m.id i0 i1
  have hlk := h.2.hit1 int_key map_und hkl (is_id (List.mem_of_getElem? hj))
  simp only [memC] at hlk
  have hB := (Below.refl w.heap.size w).alloc (Nat.le_refl _) (.cells (memC m) 157)
  have hr := Blk.new w 157 (memC m)
  have h1 := h.alloc (.cells (memC m) 157)
  have hx1 := hx.alloc (.cells (memC m) 157)
  simp only [memC] at hB
  have hma : w.alloc (.cells #[.int .i64 m.id, .int .u32 m.ad, .int .i64 m.wt, .bool m.up, .bool m.dr] 157) = w.alloc (.cells (memC m) 157) := rfl
  go_enter Try.func89, Try.ntmps89
  go_upto_region 4 with (go_at_call 87; refine (made_in h).mono ?_; rintro e w' ⟨rfl, rfl⟩)
  try rw [hma]
  rw [hma] at hB
  clear hma hlk c1
  generalize w.alloc (.cells (memC m) 157) = w2 at *
  go_wp2_with (go_at_call 90; refine (doWeigh w2 _ x m u hr hx1 hw).mono ?_; rintro e w3 ⟨rfl, hr3, hg3⟩; skip)
  have ltb0 := h.ltb
  have ltg0 := h.ltg
  have ltr := hr3.lt
  have h3 := h1.grown hg3 (by simp; omega) (by simp; omega)
  have ltb := h3.ltb
  have ltg := h3.ltg
  have hgb : g ≠ b := h.ne
  have hrb : w.heap.size ≠ b := by omega
  have c1 : w3.cell? ⟨g, 1, none⟩ = some (.map (some b)) := h3.1.cellv 1 rfl
  have hB3 := below_own hB hg3 hB.size (Nat.le_refl _)
  have hjE : (M.map memE)[j]? = some (.int .i64 m.id, .agg (memC m)) := by rw [List.getElem?_map, hj]; rfl
  unfold memC at hr3
  simp only at hr3
  -- region 8: 0 1 2 3 4 5 6M
  try refine wp_region_noPanic ?_
  have hs5r : w3.grownBy w3.drew (some b) := grown_drew (grown_refl _ _)
  refine wp_region_held_drew (S := fun w' => w3.grownBy w' (some b)) (by kernel_rfl) hs5r (fun _ => ?_)
  (refine held_takeA 0 (by rfl) ?_ (by kernel_rfl) (fun _ _ _ h => h) hs5r ?_ ?_; rotate_left; (focus (intro wq hSw; have hrd : ∀ b' o, b' < w3.heap.size → b' ≠ b → wq.cell? ⟨b', o, none⟩ = w3.cell? ⟨b', o, none⟩ := (fun b' o h hne => grown_cell hSw h hne); go_simp; try with_reducible rfl; done)); try simp only [Act.put, List.setIfInBounds_toArray, List.set_cons_zero, List.set_cons_succ])
  (refine held_takeA 1 (by rfl) ?_ (by kernel_rfl) (fun _ _ _ h => h) hs5r ?_ ?_; rotate_left; (focus (intro wq hSw; have hrd : ∀ b' o, b' < w3.heap.size → b' ≠ b → wq.cell? ⟨b', o, none⟩ = w3.cell? ⟨b', o, none⟩ := (fun b' o h hne => grown_cell hSw h hne); go_simp; try with_reducible rfl; done)); try simp only [Act.put, List.setIfInBounds_toArray, List.set_cons_zero, List.set_cons_succ])
  (refine held_takeA 2 (by rfl) ?_ (by kernel_rfl) (fun _ _ _ h => h) hs5r ?_ ?_; rotate_left; (focus (intro wq hSw; have hrd : ∀ b' o, b' < w3.heap.size → b' ≠ b → wq.cell? ⟨b', o, none⟩ = w3.cell? ⟨b', o, none⟩ := (fun b' o h hne => grown_cell hSw h hne); go_simp; try with_reducible rfl; done)); try simp only [Act.put, List.setIfInBounds_toArray, List.set_cons_zero, List.set_cons_succ])
  (refine held_takeA 3 (by rfl) ?_ (by kernel_rfl) (fun _ _ _ h => h) hs5r ?_ ?_; rotate_left; (focus (intro wq hSw; have hrd : ∀ b' o, b' < w3.heap.size → b' ≠ b → wq.cell? ⟨b', o, none⟩ = w3.cell? ⟨b', o, none⟩ := (fun b' o h hne => grown_cell hSw h hne); go_simp; try with_reducible rfl; done)); try simp only [Act.put, List.setIfInBounds_toArray, List.set_cons_zero, List.set_cons_succ])
  (refine held_takeA 4 (by rfl) ?_ (by kernel_rfl) (fun _ _ _ h => h) hs5r ?_ ?_; rotate_left; (focus (intro wq hSw; have hrd : ∀ b' o, b' < w3.heap.size → b' ≠ b → wq.cell? ⟨b', o, none⟩ = w3.cell? ⟨b', o, none⟩ := (fun b' o h hne => grown_cell hSw h hne); go_simp; try with_reducible rfl; done)); try simp only [Act.put, List.setIfInBounds_toArray, List.set_cons_zero, List.set_cons_succ])
  (refine held_takeA 5 (by rfl) ?_ (by kernel_rfl) (fun _ _ _ h => h) hs5r ?_ ?_; rotate_left; (focus (intro wq hSw; refine exec_load_blk (x := .tmp 7) ?_ ?_ (hr3.grown hSw (by simp; omega)) _ Try.underlying157 rfl (by kernel_rfl) <;> rfl)); simp only [Act.put, List.setIfInBounds_toArray, List.set_cons_zero, List.set_cons_succ])
  refine held_callA 6 (by rfl) (by kernel_rfl) (by rfl) (fun KQ hKQ => ?_)
  refine wp_put_old (key := .int .i64 m.id) (val := .agg (memC { m with wt := u })) h3.2.drew int_key map_und (.tmp 31) (.tmp 32) (.tmp 33) (by rfl) (by rfl) (by rfl) (by rfl) hkl hjE ?_
  intro w4 he4 hg4
  refine hKQ.out _ _ (grown_trans hs5r hg4) (held_mono (S' := fun w' => w4.grownBy w' (some b)) (fun w' h => grown_trans (grown_trans hs5r hg4) h) _ _ _ _ ?_)
  clear hKQ KQ
  replace hr3 := hr3.grown (grown_trans hs5r hg4) (by simp; omega)
  have hs6r : w4.grownBy w4 (some b) := grown_refl _ _
  try simp only [Act.put]
  refine wpAnyH_done (by kernel_rfl) ?_ _
  try refine NoPanic.normal ?_
  go_wp2_with fail
  go_ret
  have hg5 : w3.grownBy w4 (some b) := grown_trans (grown_drew (grown_refl w3 (some b))) hg4
  refine ⟨rfl, ⟨h3.1.grown hg5 (by simp; omega), ?_⟩, grown_trans (grown_of_below hB3 (Nat.le_refl _) _) hg5⟩
  rw [List.map_set]
  exact he4
set_option maxHeartbeats 1000000 in
theorem pWeigh (w : World) (g b : Nat) (pc : Int) (M : List Mem) (j : Nat) (m : Mem) (u : Int) (h : PoolIn w g b pc M) (hj : M[j]? = some m) (i0 : -9223372036854775808 ≤ m.id) (i1 : m.id ≤ 9223372036854775807) (hw : wtB u = true) :
    Calls Try.prog 22 #[.pointer (some ⟨g, 0, none⟩), .int .i64 m.id, .int .i64 u] w fun e w' => e = .returned (.int .i64 0) ∧ PoolIn w' g b pc (M.set j { m with wt := u }) ∧ w.grownBy w' (some b) := by
  have hB := (Below.refl w.heap.size w).alloc (Nat.le_refl _) (.cells #[.int .i64 u] 3)
  have hx := Blk.new w 3 #[.int .i64 u]
  have h1 := h.alloc (.cells #[.int .i64 u] 3)
  go_enter Try.func22, Try.ntmps22
  go_upto_region 1 with (fail)
  generalize w.alloc (.cells #[.int .i64 u] 3) = w1 at *
  go_wp2_with (refine (changeWeigh w1 g b _ pc M j m u h1 hj i0 i1 hx hw).mono ?_; rintro e w2 ⟨rfl, h2, hg2⟩)
  go_ret
  exact ⟨rfl, h2, grown_trans (grown_of_below hB (Nat.le_refl _) _) hg2⟩
set_option maxHeartbeats 1000000 in
theorem pWeighNo (w : World) (g b : Nat) (pc : Int) (M : List Mem) (id : Int) (u : Int) (h : PoolIn w g b pc M) (i0 : -9223372036854775808 ≤ id) (i1 : id ≤ 9223372036854775807) (hnot : ∀ m ∈ M, m.id ≠ id) :
    Calls Try.prog 22 #[.pointer (some ⟨g, 0, none⟩), .int .i64 id, .int .i64 u] w fun e w' => e = .returned (.int .i64 7) ∧ Below w.heap.size w w' := by
  have hB := (Below.refl w.heap.size w).alloc (Nat.le_refl _) (.cells #[.int .i64 u] 3)
  have h1 := h.alloc (.cells #[.int .i64 u] 3)
  go_enter Try.func22, Try.ntmps22
  go_upto_region 1 with (fail)
  generalize w.alloc (.cells #[.int .i64 u] 3) = w1 at *
  go_wp2_with (refine (changeNone w1 g b pc M id _ _ h1 i0 i1 hnot).mono ?_; rintro e w2 ⟨rfl, hb⟩)
  go_ret
  exact ⟨rfl, hB.trans (hb.mono hB.size)⟩
set_option maxHeartbeats 1000000 in
theorem pWeighNil (w : World) (id : Int) (u : Int) :
    Calls Try.prog 22 #[.pointer none, .int .i64 id, .int .i64 u] w fun e w' => e = .returned (.int .i64 1) ∧ Below w.heap.size w w' := by
  have hB := (Below.refl w.heap.size w).alloc (Nat.le_refl _) (.cells #[.int .i64 u] 3)
  go_enter Try.func22, Try.ntmps22
  go_upto_region 1 with (fail)
  generalize w.alloc (.cells #[.int .i64 u] 3) = w1 at *
  go_wp2_with (refine (changeNil w1 id _).mono ?_; rintro e w2 ⟨rfl, rfl⟩)
  go_ret
  exact ⟨rfl, hB⟩
set_option maxHeartbeats 1000000 in
theorem pWeighZero (w : World) (g : Nat) (pc : Int) (h : Blk w g 31 #[.int .i64 pc, .map none]) (id : Int) (u : Int) :
    Calls Try.prog 22 #[.pointer (some ⟨g, 0, none⟩), .int .i64 id, .int .i64 u] w fun e w' => e = .returned (.int .i64 1) ∧ Below w.heap.size w w' := by
  have hB := (Below.refl w.heap.size w).alloc (Nat.le_refl _) (.cells #[.int .i64 u] 3)
  have h1 := h.alloc (.cells #[.int .i64 u] 3)
  go_enter Try.func22, Try.ntmps22
  go_upto_region 1 with (fail)
  generalize w.alloc (.cells #[.int .i64 u] 3) = w1 at *
  go_wp2_with (refine (changeZero w1 g pc h1 id _).mono ?_; rintro e w2 ⟨rfl, rfl⟩)
  go_ret
  exact ⟨rfl, hB⟩
set_option maxRecDepth 100000 in
theorem doWeighBad (w : World) (r x : Nat) (u : Int) (hx : Blk w x 3 #[.int .i64 u]) (hw : wtB u = false) :
    Calls Try.prog 90 #[.pointer (some ⟨r, 0, none⟩), .pointer (some ⟨x, 0, none⟩)] w fun e w' => e = .returned (.int .i64 2) ∧ w = w' := by
  have c0 : w.cell? ⟨x, 0, none⟩ = some (.int .i64 u) := hx.cellv 0 rfl
  go_enter Try.func90, Try.ntmps90
  go_wp2_with (go_at_call 88; refine (isWeight_any _ _).mono ?_; rintro e w' ⟨rfl, rfl⟩; rw [hw])
  go_ret
  exact ⟨rfl, rfl⟩
set_option maxRecDepth 100000 in
set_option maxHeartbeats 2000000 in
theorem changeWeighBad (w : World) (g b x : Nat) (pc : Int) (M : List Mem) (m : Mem) (u : Int) (h : PoolIn w g b pc M) (hj : m ∈ M) (i0 : -9223372036854775808 ≤ m.id) (i1 : m.id ≤ 9223372036854775807) (hx : Blk w x 3 #[.int .i64 u]) (hw : wtB u = false) :
    Calls Try.prog 89 #[.pointer (some ⟨g, 0, none⟩), .int .i64 m.id, .func (.func 90) #[] #[.pointer (some ⟨x, 0, none⟩)]] w fun e w' => e = .returned (.int .i64 2) ∧ Below w.heap.size w w' := by
  have c1 : w.cell? ⟨g, 1, none⟩ = some (.map (some b)) := h.1.cellv 1 rfl
  have hkl := int_lit m.id i0 i1
  have hlk := h.2.hit1 int_key map_und hkl (is_id hj)
  simp only [memC] at hlk
  have hB := (Below.refl w.heap.size w).alloc (Nat.le_refl _) (.cells #[.int .i64 m.id, .int .u32 m.ad, .int .i64 m.wt, .bool m.up, .bool m.dr] 157)
  have hx1 := hx.alloc (.cells #[.int .i64 m.id, .int .u32 m.ad, .int .i64 m.wt, .bool m.up, .bool m.dr] 157)
  go_enter Try.func89, Try.ntmps89
  go_upto_region 4 with (go_at_call 87; refine (made_in h).mono ?_; rintro e w' ⟨rfl, rfl⟩)
  clear hlk c1
  generalize w.alloc (.cells #[.int .i64 m.id, .int .u32 m.ad, .int .i64 m.wt, .bool m.up, .bool m.dr] 157) = w2 at *
  go_wp2_with (go_at_call 90; refine (doWeighBad w2 _ x u hx1 hw).mono ?_; rintro e w3 ⟨rfl, rfl⟩; skip)
  go_ret
  exact ⟨rfl, hB⟩
set_option maxHeartbeats 1000000 in
theorem pWeighBad (w : World) (g b : Nat) (pc : Int) (M : List Mem) (m : Mem) (u : Int) (h : PoolIn w g b pc M) (hj : m ∈ M) (i0 : -9223372036854775808 ≤ m.id) (i1 : m.id ≤ 9223372036854775807) (hw : wtB u = false) :
    Calls Try.prog 22 #[.pointer (some ⟨g, 0, none⟩), .int .i64 m.id, .int .i64 u] w fun e w' => e = .returned (.int .i64 2) ∧ Below w.heap.size w w' := by
  have hB := (Below.refl w.heap.size w).alloc (Nat.le_refl _) (.cells #[.int .i64 u] 3)
  have hx := Blk.new w 3 #[.int .i64 u]
  have h1 := h.alloc (.cells #[.int .i64 u] 3)
  go_enter Try.func22, Try.ntmps22
  go_upto_region 1 with (fail)
  generalize w.alloc (.cells #[.int .i64 u] 3) = w1 at *
  go_wp2_with (refine (changeWeighBad w1 g b _ pc M m u h1 hj i0 i1 hx hw).mono ?_; rintro e w2 ⟨rfl, hb⟩)
  go_ret
  exact ⟨rfl, hB.trans (hb.mono hB.size)⟩
end Go.Proofs.Ytejgekoinbdhjaa
