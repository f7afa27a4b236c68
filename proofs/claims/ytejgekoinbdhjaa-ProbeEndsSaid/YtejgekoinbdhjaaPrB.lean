/- probe: Remove, Result, Ids, Now. -/
import Derived.Test.YtejgekoinbdhjaaPrA
import Derived.Test.YtejgekoinbdhjaaSrt
namespace Go.Proofs.Ytejgekoinbdhjaa
set_option linter.unusedVariables false
open Go Go.RowKit Go.Maps

theorem asked2 : (Try.prog.info? 212).map (·.size) = some 2 := by kernel_rfl
set_option maxRecDepth 100000 in
set_option maxHeartbeats 4000000 in
theorem remP_hit (w : World) (g bn bw : Nat) (ev pa no sq : Int) (fn : Int → Option Int) (fw : Int → Option (Int × Int)) (h : ProV w g bn bw ev pa no sq fn fw) (id : Int) (hid : IdIn id) (v : Int) (hf : fn id = some v) : Calls Try.prog 73 #[.pointer (some ⟨g, 0, none⟩), .int .i64 id] w fun e w' => e = .returned (.bool true) ∧ ProV w' g bn bw ev pa no sq (upd fn id none) (upd fw id none) ∧ Chg w w' (fun k => k = bn ∨ k = bw) := by
  have c0 : w.cell? ⟨g, 0, none⟩ = some (.int .i64 ev) := h.blk.cellv 0 rfl
  have c1 : w.cell? ⟨g, 1, none⟩ = some (.int .i64 pa) := h.blk.cellv 1 rfl
  have c2 : w.cell? ⟨g, 2, none⟩ = some (.int .i64 no) := h.blk.cellv 2 rfl
  have c3 : w.cell? ⟨g, 3, none⟩ = some (.int .i64 sq) := h.blk.cellv 3 rfl
  have c4 : w.cell? ⟨g, 4, none⟩ = some (.map (some bn)) := h.blk.cellv 4 rfl
  have c5 : w.cell? ⟨g, 5, none⟩ = some (.map (some bw)) := h.blk.cellv 5 rfl
  have ltg := h.blk.lt
  have gn := h.gn
  have gw := h.gw
  have hlk := h.en.hit1 nmap_und hid hf
  go_enter Try.func73, Try.ntmps73
  have tok := True.intro
  go_wp2_with (first
    | (go_at_call 150; refine (madeP_in h).mono ?_; rintro e w' ⟨rfl, rfl⟩)
    | (clear tok; refine wpList_fdel rfl h.en nmap_und hid (.tmp 22) (.tmp 23) rfl rfl rfl ?_; intro w1 hn1 hg1; have hC1 := Chg.of_grown (X := fun k => k = bn) hg1 rfl; have hw1 := h.ew.chg hC1 (fun e => h.ne e.symm); have hb1 := hC1.blk h.blk h.gn; have k4 : w1.cell? ⟨g, 4, none⟩ = some (.map (some bn)) := hb1.cellv 4 rfl; have k5 : w1.cell? ⟨g, 5, none⟩ = some (.map (some bw)) := hb1.cellv 5 rfl; have ltg1 := hb1.lt; have tok2 := True.intro)
    | (clear tok2; refine wpList_fdel rfl hw1 amap_und hid (.tmp 27) (.tmp 28) rfl rfl rfl ?_; intro w2 hw2 hg2))
  go_ret
  have hC2 := Chg.of_grown (X := fun k => k = bw) hg2 rfl
  exact ⟨rfl, ⟨hC2.blk hb1 h.gw, hn1.chg hC2 h.ne, hw2, h.ne⟩, (hC1.mono fun _ _ q => .inl q).trans hC2 fun _ _ q => .inr q⟩
set_option maxRecDepth 100000 in
set_option maxHeartbeats 4000000 in
theorem remP_miss (w : World) (g bn bw : Nat) (ev pa no sq : Int) (fn : Int → Option Int) (fw : Int → Option (Int × Int)) (h : ProV w g bn bw ev pa no sq fn fw) (id : Int) (hid : IdIn id) (hf : fn id = none) : Calls Try.prog 73 #[.pointer (some ⟨g, 0, none⟩), .int .i64 id] w fun e w' => e = .returned (.bool false) ∧ ProV w' g bn bw ev pa no sq (upd fn id none) (upd fw id none) ∧ Chg w w' (fun k => k = bn ∨ k = bw) := by
  have c0 : w.cell? ⟨g, 0, none⟩ = some (.int .i64 ev) := h.blk.cellv 0 rfl
  have c1 : w.cell? ⟨g, 1, none⟩ = some (.int .i64 pa) := h.blk.cellv 1 rfl
  have c2 : w.cell? ⟨g, 2, none⟩ = some (.int .i64 no) := h.blk.cellv 2 rfl
  have c3 : w.cell? ⟨g, 3, none⟩ = some (.int .i64 sq) := h.blk.cellv 3 rfl
  have c4 : w.cell? ⟨g, 4, none⟩ = some (.map (some bn)) := h.blk.cellv 4 rfl
  have c5 : w.cell? ⟨g, 5, none⟩ = some (.map (some bw)) := h.blk.cellv 5 rfl
  have ltg := h.blk.lt
  have gn := h.gn
  have gw := h.gw
  have hlk := h.en.miss1 nmap_und int_zero hid hf
  go_enter Try.func73, Try.ntmps73
  have tok := True.intro
  go_wp2_with (first
    | (go_at_call 150; refine (madeP_in h).mono ?_; rintro e w' ⟨rfl, rfl⟩)
    | (clear tok; refine wpList_fdel rfl h.en nmap_und hid (.tmp 22) (.tmp 23) rfl rfl rfl ?_; intro w1 hn1 hg1; have hC1 := Chg.of_grown (X := fun k => k = bn) hg1 rfl; have hw1 := h.ew.chg hC1 (fun e => h.ne e.symm); have hb1 := hC1.blk h.blk h.gn; have k4 : w1.cell? ⟨g, 4, none⟩ = some (.map (some bn)) := hb1.cellv 4 rfl; have k5 : w1.cell? ⟨g, 5, none⟩ = some (.map (some bw)) := hb1.cellv 5 rfl; have ltg1 := hb1.lt; have tok2 := True.intro)
    | (clear tok2; refine wpList_fdel rfl hw1 amap_und hid (.tmp 27) (.tmp 28) rfl rfl rfl ?_; intro w2 hw2 hg2))
  go_ret
  have hC2 := Chg.of_grown (X := fun k => k = bw) hg2 rfl
  exact ⟨rfl, ⟨hC2.blk hb1 h.gw, hn1.chg hC2 h.ne, hw2, h.ne⟩, (hC1.mono fun _ _ q => .inl q).trans hC2 fun _ _ q => .inr q⟩
set_option maxRecDepth 100000 in
set_option maxHeartbeats 4000000 in
theorem resP_miss (w : World) (g bn bw : Nat) (ev pa no sq : Int) (fn : Int → Option Int) (fw : Int → Option (Int × Int)) (h : ProV w g bn bw ev pa no sq fn fw) (id s : Int) (hid : IdIn id) (hf : fw id = none) : Calls Try.prog 74 #[.pointer (some ⟨g, 0, none⟩), .agg #[.int .i64 id, .int .i64 s]] w fun e w' => e = .returned (.int .i64 7) ∧ Below w.heap.size w w' := by
  have hB1 := (Below.refl w.heap.size w).alloc (Nat.le_refl _) (.cells #[.int .i64 id, .int .i64 s] 134)
  have hp := Blk.new w 134 #[.int .i64 id, .int .i64 s]
  have h1 := h.nx hB1
  go_enter Try.func74, Try.ntmps74
  go_upto_region 3 with (go_at_call 150; refine (madeP_in h1).mono ?_; rintro e w' ⟨rfl, rfl⟩)
  generalize w.alloc (.cells #[.int .i64 id, .int .i64 s] 134) = w1 at *
  have c5 : w1.cell? ⟨g, 5, none⟩ = some (.map (some bw)) := h1.blk.cellv 5 rfl
  have p0 : w1.cell? ⟨w.heap.size, 0, none⟩ = some (.int .i64 id) := hp.cellv 0 rfl
  have p1 : w1.cell? ⟨w.heap.size, 1, none⟩ = some (.int .i64 s) := hp.cellv 1 rfl
  have ltg := h1.blk.lt
  have ltp := hp.lt
  have gw := h1.gw
  -- region 3: 0 1 2 3 4 5 6 7 8 9 10M 11M 12
  try refine wp_region_noPanic ?_
  have hs1r : Below w1.heap.size w1 w1.drew := (Below.refl _ _).drew
  refine wp_region_held_drew (S := fun w' => Below w1.heap.size w1 w') (by kernel_rfl) hs1r (fun _ => ?_)
  (refine held_takeA 0 (by rfl) ?_ (by kernel_rfl) (fun _ _ _ h => h) hs1r ?_ ?_; rotate_left; (focus (intro wq hSw; have hrd : ∀ b o, b < w1.heap.size → wq.cell? ⟨b, o, none⟩ = w1.cell? ⟨b, o, none⟩ := (fun b o h => hSw.cell (p := ⟨b, o, none⟩) h); have hlk := FMap.miss1 (h1.ew.nx hSw) amap_und asked_zero hid hf; go_simp; try with_reducible rfl; done)); try simp only [Act.put, List.setIfInBounds_toArray, List.set_cons_zero, List.set_cons_succ])
  (refine held_takeA 1 (by rfl) ?_ (by kernel_rfl) (fun _ _ _ h => h) hs1r ?_ ?_; rotate_left; (focus (intro wq hSw; have hrd : ∀ b o, b < w1.heap.size → wq.cell? ⟨b, o, none⟩ = w1.cell? ⟨b, o, none⟩ := (fun b o h => hSw.cell (p := ⟨b, o, none⟩) h); have hlk := FMap.miss1 (h1.ew.nx hSw) amap_und asked_zero hid hf; go_simp; try with_reducible rfl; done)); try simp only [Act.put, List.setIfInBounds_toArray, List.set_cons_zero, List.set_cons_succ])
  (refine held_takeA 2 (by rfl) ?_ (by kernel_rfl) (fun _ _ _ h => h) hs1r ?_ ?_; rotate_left; (focus (intro wq hSw; have hrd : ∀ b o, b < w1.heap.size → wq.cell? ⟨b, o, none⟩ = w1.cell? ⟨b, o, none⟩ := (fun b o h => hSw.cell (p := ⟨b, o, none⟩) h); have hlk := FMap.miss1 (h1.ew.nx hSw) amap_und asked_zero hid hf; go_simp; try with_reducible rfl; done)); try simp only [Act.put, List.setIfInBounds_toArray, List.set_cons_zero, List.set_cons_succ])
  (refine held_takeA 3 (by rfl) ?_ (by kernel_rfl) (fun _ _ _ h => h) hs1r ?_ ?_; rotate_left; (focus (intro wq hSw; have hrd : ∀ b o, b < w1.heap.size → wq.cell? ⟨b, o, none⟩ = w1.cell? ⟨b, o, none⟩ := (fun b o h => hSw.cell (p := ⟨b, o, none⟩) h); have hlk := FMap.miss1 (h1.ew.nx hSw) amap_und asked_zero hid hf; go_simp; try with_reducible rfl; done)); try simp only [Act.put, List.setIfInBounds_toArray, List.set_cons_zero, List.set_cons_succ])
  (refine held_takeA 4 (by rfl) ?_ (by kernel_rfl) (fun _ _ _ h => h) hs1r ?_ ?_; rotate_left; (focus (intro wq hSw; have hrd : ∀ b o, b < w1.heap.size → wq.cell? ⟨b, o, none⟩ = w1.cell? ⟨b, o, none⟩ := (fun b o h => hSw.cell (p := ⟨b, o, none⟩) h); have hlk := FMap.miss1 (h1.ew.nx hSw) amap_und asked_zero hid hf; go_simp; try with_reducible rfl; done)); try simp only [Act.put, List.setIfInBounds_toArray, List.set_cons_zero, List.set_cons_succ])
  (refine held_takeA 5 (by rfl) ?_ (by kernel_rfl) (fun _ _ _ h => h) hs1r ?_ ?_; rotate_left; (focus (intro wq hSw; have hrd : ∀ b o, b < w1.heap.size → wq.cell? ⟨b, o, none⟩ = w1.cell? ⟨b, o, none⟩ := (fun b o h => hSw.cell (p := ⟨b, o, none⟩) h); have hlk := FMap.miss1 (h1.ew.nx hSw) amap_und asked_zero hid hf; go_simp; try with_reducible rfl; done)); try simp only [Act.put, List.setIfInBounds_toArray, List.set_cons_zero, List.set_cons_succ])
  (refine held_takeA 6 (by rfl) ?_ (by kernel_rfl) (fun _ _ _ h => h) hs1r ?_ ?_; rotate_left; (focus (intro wq hSw; have hrd : ∀ b o, b < w1.heap.size → wq.cell? ⟨b, o, none⟩ = w1.cell? ⟨b, o, none⟩ := (fun b o h => hSw.cell (p := ⟨b, o, none⟩) h); have hlk := FMap.miss1 (h1.ew.nx hSw) amap_und asked_zero hid hf; go_simp; try with_reducible rfl; done)); try simp only [Act.put, List.setIfInBounds_toArray, List.set_cons_zero, List.set_cons_succ])
  (refine held_takeA 7 (by rfl) ?_ (by kernel_rfl) (fun _ _ _ h => h) hs1r ?_ ?_; rotate_left; (focus (intro wq hSw; have hrd : ∀ b o, b < w1.heap.size → wq.cell? ⟨b, o, none⟩ = w1.cell? ⟨b, o, none⟩ := (fun b o h => hSw.cell (p := ⟨b, o, none⟩) h); have hlk := FMap.miss1 (h1.ew.nx hSw) amap_und asked_zero hid hf; go_simp; try with_reducible rfl; done)); try simp only [Act.put, List.setIfInBounds_toArray, List.set_cons_zero, List.set_cons_succ])
  (refine held_takeA 8 (by rfl) ?_ (by kernel_rfl) (fun _ _ _ h => h) hs1r ?_ ?_; rotate_left; (focus (intro wq hSw; have hrd : ∀ b o, b < w1.heap.size → wq.cell? ⟨b, o, none⟩ = w1.cell? ⟨b, o, none⟩ := (fun b o h => hSw.cell (p := ⟨b, o, none⟩) h); have hlk := FMap.miss1 (h1.ew.nx hSw) amap_und asked_zero hid hf; go_simp; try with_reducible rfl; done)); try simp only [Act.put, List.setIfInBounds_toArray, List.set_cons_zero, List.set_cons_succ])
  (refine held_takeA 9 (by rfl) ?_ (by kernel_rfl) (fun _ _ _ h => h) hs1r ?_ ?_; rotate_left; (focus (intro wq hSw; have hrd : ∀ b o, b < w1.heap.size → wq.cell? ⟨b, o, none⟩ = w1.cell? ⟨b, o, none⟩ := (fun b o h => hSw.cell (p := ⟨b, o, none⟩) h); have hlk := FMap.miss1 (h1.ew.nx hSw) amap_und asked_zero hid hf; go_simp; try with_reducible rfl; done)); try simp only [Act.put, List.setIfInBounds_toArray, List.set_cons_zero, List.set_cons_succ])
  refine held_callA 10 (by rfl) (by kernel_rfl) (by rfl) (fun KQ hKQ => ?_)
  go_simp
  have hb2 : Below w1.heap.size w1 (w1.drew.alloc (.cells #[.int .i64 0, .int .i64 0] 212)) := (Below.refl w1.heap.size w1).drew.alloc (Nat.le_refl _) (.cells #[.int .i64 0, .int .i64 0] 212)
  have hp2 : Blk (w1.drew.alloc (.cells #[.int .i64 0, .int .i64 0] 212)) w1.heap.size 212 #[.int .i64 0, .int .i64 0] := Blk.new w1.drew 212 #[.int .i64 0, .int .i64 0]
  have hd : (w1.alloc (.cells #[.int .i64 0, .int .i64 0] 212)).drew = w1.drew.alloc (.cells #[.int .i64 0, .int .i64 0] 212) := rfl
  try rw [hd]
  clear hd
  generalize w1.drew.alloc (.cells #[.int .i64 0, .int .i64 0] 212) = w2 at *
  have hs2r := hb2
  refine hKQ.out _ _ hs2r ?_
  clear hKQ KQ
  try simp only [Act.put, List.setIfInBounds_toArray, List.set_cons_zero, List.set_cons_succ]
  refine held_callA 11 (by rfl) (by kernel_rfl) (by rfl) (fun KQ hKQ => ?_)
  refine wp_store_blk hp2 212 (.tmp 5) (.tmp 18) (by rfl) (by rfl) (by rfl) (by rfl) (by exact asked2) (by simp [Value.oneCell']) ?_
  intro w3 hp3 hg3
  have hb3 := below_own hb2 hg3 hb2.size (Nat.le_refl _)
  have hs3r := hb3
  refine hKQ.out _ _ hs3r ?_
  clear hKQ KQ
  try simp only [Act.put]
  (refine held_takeA 12 (by rfl) ?_ (by kernel_rfl) (fun _ _ _ h => h) hs3r ?_ ?_; rotate_left; (focus (intro wq hSw; have hrd : ∀ b o, b < w1.heap.size → wq.cell? ⟨b, o, none⟩ = w1.cell? ⟨b, o, none⟩ := (fun b o h => hSw.cell (p := ⟨b, o, none⟩) h); have hlk := FMap.miss1 (h1.ew.nx hSw) amap_und asked_zero hid hf; go_simp; try with_reducible rfl; done)); try simp only [Act.put, List.setIfInBounds_toArray, List.set_cons_zero, List.set_cons_succ])
  refine wpAnyH_done (by kernel_rfl) ?_ _
  try refine NoPanic.normal ?_
  have e0 : w3.cell? ⟨w1.heap.size, 0, none⟩ = some (.int .i64 0) := hp3.cellv 0 rfl
  have lte := hp3.lt
  have h3 := h1.nx hb3
  have q0 : w3.cell? ⟨w.heap.size, 0, none⟩ = some (.int .i64 id) := (hb3.cell (p := ⟨w.heap.size, 0, none⟩) ltp).trans p0
  have q1 : w3.cell? ⟨w.heap.size, 1, none⟩ = some (.int .i64 s) := (hb3.cell (p := ⟨w.heap.size, 1, none⟩) ltp).trans p1
  have c35 : w3.cell? ⟨g, 5, none⟩ = some (.map (some bw)) := h3.blk.cellv 5 rfl
  have ltp3 : w.heap.size < w3.heap.size := Nat.lt_of_lt_of_le ltp hb3.size
  have ltg3 := h3.blk.lt
  have hB3 := hB1.trans (hb3.mono hB1.size)
  clear hp3 hb3 hb2 hg3 hp2 c5 p0 p1 ltg ltp
  go_wp2_with fail
  go_ret
  exact ⟨rfl, hB3⟩
set_option maxRecDepth 100000 in
set_option maxHeartbeats 4000000 in
theorem resP_bad (w : World) (g bn bw : Nat) (ev pa no sq : Int) (fn : Int → Option Int) (fw : Int → Option (Int × Int)) (h : ProV w g bn bw ev pa no sq fn fw) (id s : Int) (hid : IdIn id) (p : Int × Int) (hf : fw id = some p) (hne : p.1 ≠ s) : Calls Try.prog 74 #[.pointer (some ⟨g, 0, none⟩), .agg #[.int .i64 id, .int .i64 s]] w fun e w' => e = .returned (.int .i64 7) ∧ Below w.heap.size w w' := by
  have hB1 := (Below.refl w.heap.size w).alloc (Nat.le_refl _) (.cells #[.int .i64 id, .int .i64 s] 134)
  have hp := Blk.new w 134 #[.int .i64 id, .int .i64 s]
  have h1 := h.nx hB1
  go_enter Try.func74, Try.ntmps74
  go_upto_region 3 with (go_at_call 150; refine (madeP_in h1).mono ?_; rintro e w' ⟨rfl, rfl⟩)
  generalize w.alloc (.cells #[.int .i64 id, .int .i64 s] 134) = w1 at *
  have c5 : w1.cell? ⟨g, 5, none⟩ = some (.map (some bw)) := h1.blk.cellv 5 rfl
  have p0 : w1.cell? ⟨w.heap.size, 0, none⟩ = some (.int .i64 id) := hp.cellv 0 rfl
  have p1 : w1.cell? ⟨w.heap.size, 1, none⟩ = some (.int .i64 s) := hp.cellv 1 rfl
  have ltg := h1.blk.lt
  have ltp := hp.lt
  have gw := h1.gw
  have d1 : (p.1 != s) = true := by simpa using hne
  -- region 3: 0 1 2 3 4 5 6 7 8 9 10M 11M 12
  try refine wp_region_noPanic ?_
  have hs4r : Below w1.heap.size w1 w1.drew := (Below.refl _ _).drew
  refine wp_region_held_drew (S := fun w' => Below w1.heap.size w1 w') (by kernel_rfl) hs4r (fun _ => ?_)
  (refine held_takeA 0 (by rfl) ?_ (by kernel_rfl) (fun _ _ _ h => h) hs4r ?_ ?_; rotate_left; (focus (intro wq hSw; have hrd : ∀ b o, b < w1.heap.size → wq.cell? ⟨b, o, none⟩ = w1.cell? ⟨b, o, none⟩ := (fun b o h => hSw.cell (p := ⟨b, o, none⟩) h); have hlk := FMap.hit1 (h1.ew.nx hSw) amap_und hid hf; go_simp; try with_reducible rfl; done)); try simp only [Act.put, List.setIfInBounds_toArray, List.set_cons_zero, List.set_cons_succ])
  (refine held_takeA 1 (by rfl) ?_ (by kernel_rfl) (fun _ _ _ h => h) hs4r ?_ ?_; rotate_left; (focus (intro wq hSw; have hrd : ∀ b o, b < w1.heap.size → wq.cell? ⟨b, o, none⟩ = w1.cell? ⟨b, o, none⟩ := (fun b o h => hSw.cell (p := ⟨b, o, none⟩) h); have hlk := FMap.hit1 (h1.ew.nx hSw) amap_und hid hf; go_simp; try with_reducible rfl; done)); try simp only [Act.put, List.setIfInBounds_toArray, List.set_cons_zero, List.set_cons_succ])
  (refine held_takeA 2 (by rfl) ?_ (by kernel_rfl) (fun _ _ _ h => h) hs4r ?_ ?_; rotate_left; (focus (intro wq hSw; have hrd : ∀ b o, b < w1.heap.size → wq.cell? ⟨b, o, none⟩ = w1.cell? ⟨b, o, none⟩ := (fun b o h => hSw.cell (p := ⟨b, o, none⟩) h); have hlk := FMap.hit1 (h1.ew.nx hSw) amap_und hid hf; go_simp; try with_reducible rfl; done)); try simp only [Act.put, List.setIfInBounds_toArray, List.set_cons_zero, List.set_cons_succ])
  (refine held_takeA 3 (by rfl) ?_ (by kernel_rfl) (fun _ _ _ h => h) hs4r ?_ ?_; rotate_left; (focus (intro wq hSw; have hrd : ∀ b o, b < w1.heap.size → wq.cell? ⟨b, o, none⟩ = w1.cell? ⟨b, o, none⟩ := (fun b o h => hSw.cell (p := ⟨b, o, none⟩) h); have hlk := FMap.hit1 (h1.ew.nx hSw) amap_und hid hf; go_simp; try with_reducible rfl; done)); try simp only [Act.put, List.setIfInBounds_toArray, List.set_cons_zero, List.set_cons_succ])
  (refine held_takeA 4 (by rfl) ?_ (by kernel_rfl) (fun _ _ _ h => h) hs4r ?_ ?_; rotate_left; (focus (intro wq hSw; have hrd : ∀ b o, b < w1.heap.size → wq.cell? ⟨b, o, none⟩ = w1.cell? ⟨b, o, none⟩ := (fun b o h => hSw.cell (p := ⟨b, o, none⟩) h); have hlk := FMap.hit1 (h1.ew.nx hSw) amap_und hid hf; go_simp; try with_reducible rfl; done)); try simp only [Act.put, List.setIfInBounds_toArray, List.set_cons_zero, List.set_cons_succ])
  (refine held_takeA 5 (by rfl) ?_ (by kernel_rfl) (fun _ _ _ h => h) hs4r ?_ ?_; rotate_left; (focus (intro wq hSw; have hrd : ∀ b o, b < w1.heap.size → wq.cell? ⟨b, o, none⟩ = w1.cell? ⟨b, o, none⟩ := (fun b o h => hSw.cell (p := ⟨b, o, none⟩) h); have hlk := FMap.hit1 (h1.ew.nx hSw) amap_und hid hf; go_simp; try with_reducible rfl; done)); try simp only [Act.put, List.setIfInBounds_toArray, List.set_cons_zero, List.set_cons_succ])
  (refine held_takeA 6 (by rfl) ?_ (by kernel_rfl) (fun _ _ _ h => h) hs4r ?_ ?_; rotate_left; (focus (intro wq hSw; have hrd : ∀ b o, b < w1.heap.size → wq.cell? ⟨b, o, none⟩ = w1.cell? ⟨b, o, none⟩ := (fun b o h => hSw.cell (p := ⟨b, o, none⟩) h); have hlk := FMap.hit1 (h1.ew.nx hSw) amap_und hid hf; go_simp; try with_reducible rfl; done)); try simp only [Act.put, List.setIfInBounds_toArray, List.set_cons_zero, List.set_cons_succ])
  (refine held_takeA 7 (by rfl) ?_ (by kernel_rfl) (fun _ _ _ h => h) hs4r ?_ ?_; rotate_left; (focus (intro wq hSw; have hrd : ∀ b o, b < w1.heap.size → wq.cell? ⟨b, o, none⟩ = w1.cell? ⟨b, o, none⟩ := (fun b o h => hSw.cell (p := ⟨b, o, none⟩) h); have hlk := FMap.hit1 (h1.ew.nx hSw) amap_und hid hf; go_simp; try with_reducible rfl; done)); try simp only [Act.put, List.setIfInBounds_toArray, List.set_cons_zero, List.set_cons_succ])
  (refine held_takeA 8 (by rfl) ?_ (by kernel_rfl) (fun _ _ _ h => h) hs4r ?_ ?_; rotate_left; (focus (intro wq hSw; have hrd : ∀ b o, b < w1.heap.size → wq.cell? ⟨b, o, none⟩ = w1.cell? ⟨b, o, none⟩ := (fun b o h => hSw.cell (p := ⟨b, o, none⟩) h); have hlk := FMap.hit1 (h1.ew.nx hSw) amap_und hid hf; go_simp; try with_reducible rfl; done)); try simp only [Act.put, List.setIfInBounds_toArray, List.set_cons_zero, List.set_cons_succ])
  (refine held_takeA 9 (by rfl) ?_ (by kernel_rfl) (fun _ _ _ h => h) hs4r ?_ ?_; rotate_left; (focus (intro wq hSw; have hrd : ∀ b o, b < w1.heap.size → wq.cell? ⟨b, o, none⟩ = w1.cell? ⟨b, o, none⟩ := (fun b o h => hSw.cell (p := ⟨b, o, none⟩) h); have hlk := FMap.hit1 (h1.ew.nx hSw) amap_und hid hf; go_simp; try with_reducible rfl; done)); try simp only [Act.put, List.setIfInBounds_toArray, List.set_cons_zero, List.set_cons_succ])
  refine held_callA 10 (by rfl) (by kernel_rfl) (by rfl) (fun KQ hKQ => ?_)
  go_simp
  have hb2 : Below w1.heap.size w1 (w1.drew.alloc (.cells #[.int .i64 0, .int .i64 0] 212)) := (Below.refl w1.heap.size w1).drew.alloc (Nat.le_refl _) (.cells #[.int .i64 0, .int .i64 0] 212)
  have hp2 : Blk (w1.drew.alloc (.cells #[.int .i64 0, .int .i64 0] 212)) w1.heap.size 212 #[.int .i64 0, .int .i64 0] := Blk.new w1.drew 212 #[.int .i64 0, .int .i64 0]
  have hd : (w1.alloc (.cells #[.int .i64 0, .int .i64 0] 212)).drew = w1.drew.alloc (.cells #[.int .i64 0, .int .i64 0] 212) := rfl
  try rw [hd]
  clear hd
  generalize w1.drew.alloc (.cells #[.int .i64 0, .int .i64 0] 212) = w2 at *
  have hs5r := hb2
  refine hKQ.out _ _ hs5r ?_
  clear hKQ KQ
  try simp only [Act.put, List.setIfInBounds_toArray, List.set_cons_zero, List.set_cons_succ]
  refine held_callA 11 (by rfl) (by kernel_rfl) (by rfl) (fun KQ hKQ => ?_)
  refine wp_store_blk hp2 212 (.tmp 5) (.tmp 18) (by rfl) (by rfl) (by rfl) (by rfl) (by exact asked2) (by simp [Value.oneCell']) ?_
  intro w3 hp3 hg3
  have hb3 := below_own hb2 hg3 hb2.size (Nat.le_refl _)
  have hs6r := hb3
  refine hKQ.out _ _ hs6r ?_
  clear hKQ KQ
  try simp only [Act.put]
  (refine held_takeA 12 (by rfl) ?_ (by kernel_rfl) (fun _ _ _ h => h) hs6r ?_ ?_; rotate_left; (focus (intro wq hSw; have hrd : ∀ b o, b < w1.heap.size → wq.cell? ⟨b, o, none⟩ = w1.cell? ⟨b, o, none⟩ := (fun b o h => hSw.cell (p := ⟨b, o, none⟩) h); have hlk := FMap.hit1 (h1.ew.nx hSw) amap_und hid hf; go_simp; try with_reducible rfl; done)); try simp only [Act.put, List.setIfInBounds_toArray, List.set_cons_zero, List.set_cons_succ])
  refine wpAnyH_done (by kernel_rfl) ?_ _
  try refine NoPanic.normal ?_
  have e0 : w3.cell? ⟨w1.heap.size, 0, none⟩ = some (.int .i64 p.1) := hp3.cellv 0 rfl
  have lte := hp3.lt
  have h3 := h1.nx hb3
  have q0 : w3.cell? ⟨w.heap.size, 0, none⟩ = some (.int .i64 id) := (hb3.cell (p := ⟨w.heap.size, 0, none⟩) ltp).trans p0
  have q1 : w3.cell? ⟨w.heap.size, 1, none⟩ = some (.int .i64 s) := (hb3.cell (p := ⟨w.heap.size, 1, none⟩) ltp).trans p1
  have c35 : w3.cell? ⟨g, 5, none⟩ = some (.map (some bw)) := h3.blk.cellv 5 rfl
  have ltp3 : w.heap.size < w3.heap.size := Nat.lt_of_lt_of_le ltp hb3.size
  have ltg3 := h3.blk.lt
  have hB3 := hB1.trans (hb3.mono hB1.size)
  clear hp3 hb3 hb2 hg3 hp2 c5 p0 p1 ltg ltp
  go_wp2_with fail
  go_ret
  exact ⟨rfl, hB3⟩
set_option maxRecDepth 100000 in
set_option maxHeartbeats 4000000 in
theorem resP_ok (w : World) (g bn bw : Nat) (ev pa no sq : Int) (fn : Int → Option Int) (fw : Int → Option (Int × Int)) (h : ProV w g bn bw ev pa no sq fn fw) (id s : Int) (hid : IdIn id) (p : Int × Int) (hf : fw id = some p) (hne : p.1 = s) : Calls Try.prog 74 #[.pointer (some ⟨g, 0, none⟩), .agg #[.int .i64 id, .int .i64 s]] w fun e w' => e = .returned (.int .i64 0) ∧ ProV w' g bn bw ev pa no sq fn (upd fw id none) ∧ Chg w w' (fun k => k = bw) := by
  subst hne
  have hB1 := (Below.refl w.heap.size w).alloc (Nat.le_refl _) (.cells #[.int .i64 id, .int .i64 p.1] 134)
  have hp := Blk.new w 134 #[.int .i64 id, .int .i64 p.1]
  have h1 := h.nx hB1
  go_enter Try.func74, Try.ntmps74
  go_upto_region 3 with (go_at_call 150; refine (madeP_in h1).mono ?_; rintro e w' ⟨rfl, rfl⟩)
  generalize w.alloc (.cells #[.int .i64 id, .int .i64 p.1] 134) = w1 at *
  have c5 : w1.cell? ⟨g, 5, none⟩ = some (.map (some bw)) := h1.blk.cellv 5 rfl
  have p0 : w1.cell? ⟨w.heap.size, 0, none⟩ = some (.int .i64 id) := hp.cellv 0 rfl
  have p1 : w1.cell? ⟨w.heap.size, 1, none⟩ = some (.int .i64 p.1) := hp.cellv 1 rfl
  have ltg := h1.blk.lt
  have ltp := hp.lt
  have gw := h1.gw
  have d1 : (p.1 != p.1) = false := by simp
  -- region 3: 0 1 2 3 4 5 6 7 8 9 10M 11M 12
  try refine wp_region_noPanic ?_
  have hs7r : Below w1.heap.size w1 w1.drew := (Below.refl _ _).drew
  refine wp_region_held_drew (S := fun w' => Below w1.heap.size w1 w') (by kernel_rfl) hs7r (fun _ => ?_)
  (refine held_takeA 0 (by rfl) ?_ (by kernel_rfl) (fun _ _ _ h => h) hs7r ?_ ?_; rotate_left; (focus (intro wq hSw; have hrd : ∀ b o, b < w1.heap.size → wq.cell? ⟨b, o, none⟩ = w1.cell? ⟨b, o, none⟩ := (fun b o h => hSw.cell (p := ⟨b, o, none⟩) h); have hlk := FMap.hit1 (h1.ew.nx hSw) amap_und hid hf; go_simp; try with_reducible rfl; done)); try simp only [Act.put, List.setIfInBounds_toArray, List.set_cons_zero, List.set_cons_succ])
  (refine held_takeA 1 (by rfl) ?_ (by kernel_rfl) (fun _ _ _ h => h) hs7r ?_ ?_; rotate_left; (focus (intro wq hSw; have hrd : ∀ b o, b < w1.heap.size → wq.cell? ⟨b, o, none⟩ = w1.cell? ⟨b, o, none⟩ := (fun b o h => hSw.cell (p := ⟨b, o, none⟩) h); have hlk := FMap.hit1 (h1.ew.nx hSw) amap_und hid hf; go_simp; try with_reducible rfl; done)); try simp only [Act.put, List.setIfInBounds_toArray, List.set_cons_zero, List.set_cons_succ])
  (refine held_takeA 2 (by rfl) ?_ (by kernel_rfl) (fun _ _ _ h => h) hs7r ?_ ?_; rotate_left; (focus (intro wq hSw; have hrd : ∀ b o, b < w1.heap.size → wq.cell? ⟨b, o, none⟩ = w1.cell? ⟨b, o, none⟩ := (fun b o h => hSw.cell (p := ⟨b, o, none⟩) h); have hlk := FMap.hit1 (h1.ew.nx hSw) amap_und hid hf; go_simp; try with_reducible rfl; done)); try simp only [Act.put, List.setIfInBounds_toArray, List.set_cons_zero, List.set_cons_succ])
  (refine held_takeA 3 (by rfl) ?_ (by kernel_rfl) (fun _ _ _ h => h) hs7r ?_ ?_; rotate_left; (focus (intro wq hSw; have hrd : ∀ b o, b < w1.heap.size → wq.cell? ⟨b, o, none⟩ = w1.cell? ⟨b, o, none⟩ := (fun b o h => hSw.cell (p := ⟨b, o, none⟩) h); have hlk := FMap.hit1 (h1.ew.nx hSw) amap_und hid hf; go_simp; try with_reducible rfl; done)); try simp only [Act.put, List.setIfInBounds_toArray, List.set_cons_zero, List.set_cons_succ])
  (refine held_takeA 4 (by rfl) ?_ (by kernel_rfl) (fun _ _ _ h => h) hs7r ?_ ?_; rotate_left; (focus (intro wq hSw; have hrd : ∀ b o, b < w1.heap.size → wq.cell? ⟨b, o, none⟩ = w1.cell? ⟨b, o, none⟩ := (fun b o h => hSw.cell (p := ⟨b, o, none⟩) h); have hlk := FMap.hit1 (h1.ew.nx hSw) amap_und hid hf; go_simp; try with_reducible rfl; done)); try simp only [Act.put, List.setIfInBounds_toArray, List.set_cons_zero, List.set_cons_succ])
  (refine held_takeA 5 (by rfl) ?_ (by kernel_rfl) (fun _ _ _ h => h) hs7r ?_ ?_; rotate_left; (focus (intro wq hSw; have hrd : ∀ b o, b < w1.heap.size → wq.cell? ⟨b, o, none⟩ = w1.cell? ⟨b, o, none⟩ := (fun b o h => hSw.cell (p := ⟨b, o, none⟩) h); have hlk := FMap.hit1 (h1.ew.nx hSw) amap_und hid hf; go_simp; try with_reducible rfl; done)); try simp only [Act.put, List.setIfInBounds_toArray, List.set_cons_zero, List.set_cons_succ])
  (refine held_takeA 6 (by rfl) ?_ (by kernel_rfl) (fun _ _ _ h => h) hs7r ?_ ?_; rotate_left; (focus (intro wq hSw; have hrd : ∀ b o, b < w1.heap.size → wq.cell? ⟨b, o, none⟩ = w1.cell? ⟨b, o, none⟩ := (fun b o h => hSw.cell (p := ⟨b, o, none⟩) h); have hlk := FMap.hit1 (h1.ew.nx hSw) amap_und hid hf; go_simp; try with_reducible rfl; done)); try simp only [Act.put, List.setIfInBounds_toArray, List.set_cons_zero, List.set_cons_succ])
  (refine held_takeA 7 (by rfl) ?_ (by kernel_rfl) (fun _ _ _ h => h) hs7r ?_ ?_; rotate_left; (focus (intro wq hSw; have hrd : ∀ b o, b < w1.heap.size → wq.cell? ⟨b, o, none⟩ = w1.cell? ⟨b, o, none⟩ := (fun b o h => hSw.cell (p := ⟨b, o, none⟩) h); have hlk := FMap.hit1 (h1.ew.nx hSw) amap_und hid hf; go_simp; try with_reducible rfl; done)); try simp only [Act.put, List.setIfInBounds_toArray, List.set_cons_zero, List.set_cons_succ])
  (refine held_takeA 8 (by rfl) ?_ (by kernel_rfl) (fun _ _ _ h => h) hs7r ?_ ?_; rotate_left; (focus (intro wq hSw; have hrd : ∀ b o, b < w1.heap.size → wq.cell? ⟨b, o, none⟩ = w1.cell? ⟨b, o, none⟩ := (fun b o h => hSw.cell (p := ⟨b, o, none⟩) h); have hlk := FMap.hit1 (h1.ew.nx hSw) amap_und hid hf; go_simp; try with_reducible rfl; done)); try simp only [Act.put, List.setIfInBounds_toArray, List.set_cons_zero, List.set_cons_succ])
  (refine held_takeA 9 (by rfl) ?_ (by kernel_rfl) (fun _ _ _ h => h) hs7r ?_ ?_; rotate_left; (focus (intro wq hSw; have hrd : ∀ b o, b < w1.heap.size → wq.cell? ⟨b, o, none⟩ = w1.cell? ⟨b, o, none⟩ := (fun b o h => hSw.cell (p := ⟨b, o, none⟩) h); have hlk := FMap.hit1 (h1.ew.nx hSw) amap_und hid hf; go_simp; try with_reducible rfl; done)); try simp only [Act.put, List.setIfInBounds_toArray, List.set_cons_zero, List.set_cons_succ])
  refine held_callA 10 (by rfl) (by kernel_rfl) (by rfl) (fun KQ hKQ => ?_)
  go_simp
  have hb2 : Below w1.heap.size w1 (w1.drew.alloc (.cells #[.int .i64 0, .int .i64 0] 212)) := (Below.refl w1.heap.size w1).drew.alloc (Nat.le_refl _) (.cells #[.int .i64 0, .int .i64 0] 212)
  have hp2 : Blk (w1.drew.alloc (.cells #[.int .i64 0, .int .i64 0] 212)) w1.heap.size 212 #[.int .i64 0, .int .i64 0] := Blk.new w1.drew 212 #[.int .i64 0, .int .i64 0]
  have hd : (w1.alloc (.cells #[.int .i64 0, .int .i64 0] 212)).drew = w1.drew.alloc (.cells #[.int .i64 0, .int .i64 0] 212) := rfl
  try rw [hd]
  clear hd
  generalize w1.drew.alloc (.cells #[.int .i64 0, .int .i64 0] 212) = w2 at *
  have hs8r := hb2
  refine hKQ.out _ _ hs8r ?_
  clear hKQ KQ
  try simp only [Act.put, List.setIfInBounds_toArray, List.set_cons_zero, List.set_cons_succ]
  refine held_callA 11 (by rfl) (by kernel_rfl) (by rfl) (fun KQ hKQ => ?_)
  refine wp_store_blk hp2 212 (.tmp 5) (.tmp 18) (by rfl) (by rfl) (by rfl) (by rfl) (by exact asked2) (by simp [Value.oneCell']) ?_
  intro w3 hp3 hg3
  have hb3 := below_own hb2 hg3 hb2.size (Nat.le_refl _)
  have hs9r := hb3
  refine hKQ.out _ _ hs9r ?_
  clear hKQ KQ
  try simp only [Act.put]
  (refine held_takeA 12 (by rfl) ?_ (by kernel_rfl) (fun _ _ _ h => h) hs9r ?_ ?_; rotate_left; (focus (intro wq hSw; have hrd : ∀ b o, b < w1.heap.size → wq.cell? ⟨b, o, none⟩ = w1.cell? ⟨b, o, none⟩ := (fun b o h => hSw.cell (p := ⟨b, o, none⟩) h); have hlk := FMap.hit1 (h1.ew.nx hSw) amap_und hid hf; go_simp; try with_reducible rfl; done)); try simp only [Act.put, List.setIfInBounds_toArray, List.set_cons_zero, List.set_cons_succ])
  refine wpAnyH_done (by kernel_rfl) ?_ _
  try refine NoPanic.normal ?_
  have e0 : w3.cell? ⟨w1.heap.size, 0, none⟩ = some (.int .i64 p.1) := hp3.cellv 0 rfl
  have lte := hp3.lt
  have h3 := h1.nx hb3
  have q0 : w3.cell? ⟨w.heap.size, 0, none⟩ = some (.int .i64 id) := (hb3.cell (p := ⟨w.heap.size, 0, none⟩) ltp).trans p0
  have q1 : w3.cell? ⟨w.heap.size, 1, none⟩ = some (.int .i64 p.1) := (hb3.cell (p := ⟨w.heap.size, 1, none⟩) ltp).trans p1
  have c35 : w3.cell? ⟨g, 5, none⟩ = some (.map (some bw)) := h3.blk.cellv 5 rfl
  have ltp3 : w.heap.size < w3.heap.size := Nat.lt_of_lt_of_le ltp hb3.size
  have ltg3 := h3.blk.lt
  have hB3 := hB1.trans (hb3.mono hB1.size)
  clear hp3 hb3 hb2 hg3 hp2 c5 p0 p1 ltg ltp
  go_upto_region 6 with (fail)
  have gwp : w.heap.size ≠ bw := by have := h.lt.2.2; omega
  -- region 6: 0 1 2 3 4 5 6M
  try refine wp_region_noPanic ?_
  have hs10r : w3.grownBy w3.drew (some bw) := grown_drew (grown_refl _ _)
  refine wp_region_held_drew (S := fun w' => w3.grownBy w' (some bw)) (by kernel_rfl) hs10r (fun _ => ?_)
  (refine held_takeA 0 (by rfl) ?_ (by kernel_rfl) (fun _ _ _ h => h) hs10r ?_ ?_; rotate_left; (focus (intro wq hSw; have hrd : ∀ b' o, b' < w3.heap.size → b' ≠ bw → wq.cell? ⟨b', o, none⟩ = w3.cell? ⟨b', o, none⟩ := (fun b' o h hne => grown_cell hSw h hne); go_simp; try with_reducible rfl; done)); try simp only [Act.put, List.setIfInBounds_toArray, List.set_cons_zero, List.set_cons_succ])
  (refine held_takeA 1 (by rfl) ?_ (by kernel_rfl) (fun _ _ _ h => h) hs10r ?_ ?_; rotate_left; (focus (intro wq hSw; have hrd : ∀ b' o, b' < w3.heap.size → b' ≠ bw → wq.cell? ⟨b', o, none⟩ = w3.cell? ⟨b', o, none⟩ := (fun b' o h hne => grown_cell hSw h hne); go_simp; try with_reducible rfl; done)); try simp only [Act.put, List.setIfInBounds_toArray, List.set_cons_zero, List.set_cons_succ])
  (refine held_takeA 2 (by rfl) ?_ (by kernel_rfl) (fun _ _ _ h => h) hs10r ?_ ?_; rotate_left; (focus (intro wq hSw; have hrd : ∀ b' o, b' < w3.heap.size → b' ≠ bw → wq.cell? ⟨b', o, none⟩ = w3.cell? ⟨b', o, none⟩ := (fun b' o h hne => grown_cell hSw h hne); go_simp; try with_reducible rfl; done)); try simp only [Act.put, List.setIfInBounds_toArray, List.set_cons_zero, List.set_cons_succ])
  (refine held_takeA 3 (by rfl) ?_ (by kernel_rfl) (fun _ _ _ h => h) hs10r ?_ ?_; rotate_left; (focus (intro wq hSw; have hrd : ∀ b' o, b' < w3.heap.size → b' ≠ bw → wq.cell? ⟨b', o, none⟩ = w3.cell? ⟨b', o, none⟩ := (fun b' o h hne => grown_cell hSw h hne); go_simp; try with_reducible rfl; done)); try simp only [Act.put, List.setIfInBounds_toArray, List.set_cons_zero, List.set_cons_succ])
  (refine held_takeA 4 (by rfl) ?_ (by kernel_rfl) (fun _ _ _ h => h) hs10r ?_ ?_; rotate_left; (focus (intro wq hSw; have hrd : ∀ b' o, b' < w3.heap.size → b' ≠ bw → wq.cell? ⟨b', o, none⟩ = w3.cell? ⟨b', o, none⟩ := (fun b' o h hne => grown_cell hSw h hne); go_simp; try with_reducible rfl; done)); try simp only [Act.put, List.setIfInBounds_toArray, List.set_cons_zero, List.set_cons_succ])
  (refine held_takeA 5 (by rfl) ?_ (by kernel_rfl) (fun _ _ _ h => h) hs10r ?_ ?_; rotate_left; (focus (intro wq hSw; have hrd : ∀ b' o, b' < w3.heap.size → b' ≠ bw → wq.cell? ⟨b', o, none⟩ = w3.cell? ⟨b', o, none⟩ := (fun b' o h hne => grown_cell hSw h hne); go_simp; try with_reducible rfl; done)); try simp only [Act.put, List.setIfInBounds_toArray, List.set_cons_zero, List.set_cons_succ])
  refine held_callA 6 (by rfl) (by kernel_rfl) (by rfl) (fun KQ hKQ => ?_)
  refine wp_fdel (show FMap aV w3.drew bw fw from h3.ew) amap_und hid (.tmp 32) (.tmp 34) (by rfl) (by rfl) (by rfl) ?_
  intro w4 he4 hg4
  refine hKQ.out _ _ (grown_trans hs10r hg4) (held_mono (S' := fun w' => w4.grownBy w' (some bw)) (fun w' h => grown_trans (grown_trans hs10r hg4) h) _ _ _ _ ?_)
  clear hKQ KQ
  have hs11r : w4.grownBy w4 (some bw) := grown_refl _ _
  try simp only [Act.put]
  refine wpAnyH_done (by kernel_rfl) ?_ _
  try refine NoPanic.normal ?_
  go_wp2_with fail
  go_ret
  have hg5 : w3.grownBy w4 (some bw) := grown_trans (grown_drew (grown_refl w3 (some bw))) hg4
  have hC := Chg.of_grown (X := fun k => k = bw) hg5 rfl
  exact ⟨rfl, ⟨hC.blk h3.blk h3.gw, h3.en.chg hC h3.ne, he4, h3.ne⟩, (Chg.of_below (X := fun k => k = bw) hB3).trans hC fun _ _ q => q⟩
end Go.Proofs.Ytejgekoinbdhjaa
