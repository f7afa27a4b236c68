/- flows: Peek, Drop. -/
import Derived.Test.YtejgekoinbdhjaaFlF
import Derived.StillTailTactics
namespace Go.Proofs.Ytejgekoinbdhjaa
set_option linter.unusedVariables false
open Go Go.RowKit Go.Maps

def enA (x : EnV) : Value := .agg #[.int .i64 x.fl.pr, .int .u32 x.fl.src, .int .u32 x.fl.dst, .int .i64 x.fl.sp, .int .i64 x.fl.dp, .int .i64 x.be, .int .i64 x.la]
theorem got_entry : (Try.prog.info? 62).map (·.size) = some 7 := by kernel_rfl
theorem look_row {w wq : World} {g m e r : Nat} {ro idl now ca we : Int} {l : List Nat} {dt : Nat → EnV} {bk nx : Nat → Nat} (h : RingV w g m e ro idl now ca we l dt bk nx) (f : Flo) (hf : FloOk f) {k : Nat} (hk : k ∈ l) (hkf : (dt k).fl = f) (hb : w.grownBy wq (some r)) (h1 : g ≠ r) (h2 : m ≠ r) (h3 : ∀ k ∈ e :: l, k ≠ r) :
    (Instr.lookup 73 (.map (some m)) (.agg #[.int .i64 f.pr, .int .u32 f.src, .int .u32 f.dst, .int .i64 f.sp, .int .i64 f.dp]) false).run Try.prog wq = .ok (.pointer (some ⟨k, 0, none⟩)) wq :=
  look_drew (h.chg (Chg.of_grown (X := fun k => k = r) hb rfl) h1 h2 h3) f hf hk hkf (Below.refl _ _)
set_option maxRecDepth 100000 in
set_option maxHeartbeats 4000000 in
theorem peekF_miss {w : World} {g m e : Nat} {ro idl now ca we : Int} {dt : Nat → EnV} {bk nx : Nat → Nat} {l : List Nat} (h : RingV w g m e ro idl now ca we l dt bk nx) (f : Flo) (hf : FloOk f) (hno : ∀ k ∈ l, (dt k).fl ≠ f) :
    Calls Try.prog 43 #[.pointer (some ⟨g, 0, none⟩), .agg #[.int .i64 f.pr, .int .u32 f.src, .int .u32 f.dst, .int .i64 f.sp, .int .i64 f.dp]] w fun en w' => en = .returned (.tuple #[enA ze, .bool false]) ∧ Below w.heap.size w w' := by
  have hB := (Below.refl w.heap.size w).alloc (Nat.le_refl _) (.cells #[.int .i64 f.pr, .int .u32 f.src, .int .u32 f.dst, .int .i64 f.sp, .int .i64 f.dp] 57)
  have hf4 := Blk.new w 57 #[.int .i64 f.pr, .int .u32 f.src, .int .u32 f.dst, .int .i64 f.sp, .int .i64 f.dp]
  have h1 := h.fwd hB
  go_enter Try.func43, Try.ntmps43
  have hB2 := hB.alloc hB.size (.cells #[.int .i64 0, .int .u32 0, .int .u32 0, .int .i64 0, .int .i64 0, .int .i64 0, .int .i64 0] 62)
  have hf5 := hf4.alloc (.cells #[.int .i64 0, .int .u32 0, .int .u32 0, .int .i64 0, .int .i64 0, .int .i64 0, .int .i64 0] 62)
  have hq := Blk.new (w.alloc (.cells #[.int .i64 f.pr, .int .u32 f.src, .int .u32 f.dst, .int .i64 f.sp, .int .i64 f.dp] 57)) 62 #[.int .i64 0, .int .u32 0, .int .u32 0, .int .i64 0, .int .i64 0, .int .i64 0, .int .i64 0]
  rw [show (w.alloc (.cells #[.int .i64 f.pr, .int .u32 f.src, .int .u32 f.dst, .int .i64 f.sp, .int .i64 f.dp] 57)).heap.size = w.heap.size + 1 by simp] at hq
  have h2 := h.fwd hB2
  clear hB hf4 h1
  go_upto_region 1 with (fail)
  generalize (w.alloc (.cells #[.int .i64 f.pr, .int .u32 f.src, .int .u32 f.dst, .int .i64 f.sp, .int .i64 f.dp] 57)).alloc (.cells #[.int .i64 0, .int .u32 0, .int .u32 0, .int .i64 0, .int .i64 0, .int .i64 0, .int .i64 0] 62) = w2 at *
  have hlt := h.lt
  obtain ⟨fb, hfb⟩ : ∃ fb, fb = w.heap.size := ⟨_, rfl⟩
  obtain ⟨eb, heb⟩ : ∃ eb, eb = w.heap.size + 1 := ⟨_, rfl⟩
  rw [← heb] at hq
  rw [← hfb] at hf5
  have hge : g ≠ eb := by omega
  have hfe : fb ≠ eb := by omega
  have c3 : w2.cell? ⟨g, 3, none⟩ = some (.map (some m)) := h2.blk.cellv 3 rfl
  have y0 : w2.cell? ⟨fb, 0, none⟩ = some (.int .i64 f.pr) := hf5.cellv 0 rfl
  have y1 : w2.cell? ⟨fb, 1, none⟩ = some (.int .u32 f.src) := hf5.cellv 1 rfl
  have y2 : w2.cell? ⟨fb, 2, none⟩ = some (.int .u32 f.dst) := hf5.cellv 2 rfl
  have y3 : w2.cell? ⟨fb, 3, none⟩ = some (.int .i64 f.sp) := hf5.cellv 3 rfl
  have y4 : w2.cell? ⟨fb, 4, none⟩ = some (.int .i64 f.dp) := hf5.cellv 4 rfl
  have ltg2 := h2.blk.lt
  have ltf2 := hf5.lt
  have lte2 := hq.lt
  rw [← hfb, show fb + 1 = eb by omega]
  replace heb := Lib.hid heb
  replace hfb := Lib.hid hfb
  -- region 1: 0 1C 2 3 4 5 6 7 8 9 10 11
  try refine wp_region_noPanic ?_
  have hs1r : Below w2.heap.size w2 w2.drew := (Below.refl _ _).drew
  refine wp_region_held_drew (S := fun w' => Below w2.heap.size w2 w') (by kernel_rfl) hs1r (fun _ => ?_)
  (refine held_takeA 0 (by rfl) ?_ (by kernel_rfl) (fun _ _ _ h => h) hs1r ?_ ?_; rotate_left; (focus (intro wq hSw; have hrd : ∀ b o, b < w2.heap.size → wq.cell? ⟨b, o, none⟩ = w2.cell? ⟨b, o, none⟩ := (fun b o h => hSw.cell (p := ⟨b, o, none⟩) h); have hlk := look_none h2 f hf hno hSw; go_simp; try with_reducible rfl; done)); try simp only [Act.put, List.setIfInBounds_toArray, List.set_cons_zero, List.set_cons_succ])
  refine held_callA 1 (by rfl) (by kernel_rfl) (by rfl) (fun KQ hKQ => ?_)
  go_simp
  refine (madeF_in (h2.fwd (Below.refl _ _).drew)).mono ?_
  rintro en w' ⟨rfl, rfl⟩
  have hs2r := (show Below w2.heap.size w2 w2.drew from (Below.refl _ _).drew)
  refine hKQ.out _ _ hs2r ?_
  clear hKQ KQ
  try simp only [Act.put, List.setIfInBounds_toArray, List.set_cons_zero, List.set_cons_succ]
  (refine held_takeA 2 (by rfl) ?_ (by kernel_rfl) (fun _ _ _ h => h) hs2r ?_ ?_; rotate_left; (focus (intro wq hSw; have hrd : ∀ b o, b < w2.heap.size → wq.cell? ⟨b, o, none⟩ = w2.cell? ⟨b, o, none⟩ := (fun b o h => hSw.cell (p := ⟨b, o, none⟩) h); have hlk := look_none h2 f hf hno hSw; go_simp; try with_reducible rfl; done)); try simp only [Act.put, List.setIfInBounds_toArray, List.set_cons_zero, List.set_cons_succ])
  (refine held_takeA 3 (by rfl) ?_ (by kernel_rfl) (fun _ _ _ h => h) hs2r ?_ ?_; rotate_left; (focus (intro wq hSw; have hrd : ∀ b o, b < w2.heap.size → wq.cell? ⟨b, o, none⟩ = w2.cell? ⟨b, o, none⟩ := (fun b o h => hSw.cell (p := ⟨b, o, none⟩) h); have hlk := look_none h2 f hf hno hSw; go_simp; try with_reducible rfl; done)); try simp only [Act.put, List.setIfInBounds_toArray, List.set_cons_zero, List.set_cons_succ])
  (refine held_takeA 4 (by rfl) ?_ (by kernel_rfl) (fun _ _ _ h => h) hs2r ?_ ?_; rotate_left; (focus (intro wq hSw; have hrd : ∀ b o, b < w2.heap.size → wq.cell? ⟨b, o, none⟩ = w2.cell? ⟨b, o, none⟩ := (fun b o h => hSw.cell (p := ⟨b, o, none⟩) h); have hlk := look_none h2 f hf hno hSw; go_simp; try with_reducible rfl; done)); try simp only [Act.put, List.setIfInBounds_toArray, List.set_cons_zero, List.set_cons_succ])
  (refine held_takeA 5 (by rfl) ?_ (by kernel_rfl) (fun _ _ _ h => h) hs2r ?_ ?_; rotate_left; (focus (intro wq hSw; have hrd : ∀ b o, b < w2.heap.size → wq.cell? ⟨b, o, none⟩ = w2.cell? ⟨b, o, none⟩ := (fun b o h => hSw.cell (p := ⟨b, o, none⟩) h); have hlk := look_none h2 f hf hno hSw; go_simp; try with_reducible rfl; done)); try simp only [Act.put, List.setIfInBounds_toArray, List.set_cons_zero, List.set_cons_succ])
  (refine held_takeA 6 (by rfl) ?_ (by kernel_rfl) (fun _ _ _ h => h) hs2r ?_ ?_; rotate_left; (focus (intro wq hSw; have hrd : ∀ b o, b < w2.heap.size → wq.cell? ⟨b, o, none⟩ = w2.cell? ⟨b, o, none⟩ := (fun b o h => hSw.cell (p := ⟨b, o, none⟩) h); have hlk := look_none h2 f hf hno hSw; go_simp; try with_reducible rfl; done)); try simp only [Act.put, List.setIfInBounds_toArray, List.set_cons_zero, List.set_cons_succ])
  (refine held_takeA 7 (by rfl) ?_ (by kernel_rfl) (fun _ _ _ h => h) hs2r ?_ ?_; rotate_left; (focus (intro wq hSw; have hrd : ∀ b o, b < w2.heap.size → wq.cell? ⟨b, o, none⟩ = w2.cell? ⟨b, o, none⟩ := (fun b o h => hSw.cell (p := ⟨b, o, none⟩) h); have hlk := look_none h2 f hf hno hSw; go_simp; try with_reducible rfl; done)); try simp only [Act.put, List.setIfInBounds_toArray, List.set_cons_zero, List.set_cons_succ])
  (refine held_takeA 8 (by rfl) ?_ (by kernel_rfl) (fun _ _ _ h => h) hs2r ?_ ?_; rotate_left; (focus (intro wq hSw; have hrd : ∀ b o, b < w2.heap.size → wq.cell? ⟨b, o, none⟩ = w2.cell? ⟨b, o, none⟩ := (fun b o h => hSw.cell (p := ⟨b, o, none⟩) h); have hlk := look_none h2 f hf hno hSw; go_simp; try with_reducible rfl; done)); try simp only [Act.put, List.setIfInBounds_toArray, List.set_cons_zero, List.set_cons_succ])
  (refine held_takeA 9 (by rfl) ?_ (by kernel_rfl) (fun _ _ _ h => h) hs2r ?_ ?_; rotate_left; (focus (intro wq hSw; have hrd : ∀ b o, b < w2.heap.size → wq.cell? ⟨b, o, none⟩ = w2.cell? ⟨b, o, none⟩ := (fun b o h => hSw.cell (p := ⟨b, o, none⟩) h); have hlk := look_none h2 f hf hno hSw; go_simp; try with_reducible rfl; done)); try simp only [Act.put, List.setIfInBounds_toArray, List.set_cons_zero, List.set_cons_succ])
  (refine held_takeA 10 (by rfl) ?_ (by kernel_rfl) (fun _ _ _ h => h) hs2r ?_ ?_; rotate_left; (focus (intro wq hSw; have hrd : ∀ b o, b < w2.heap.size → wq.cell? ⟨b, o, none⟩ = w2.cell? ⟨b, o, none⟩ := (fun b o h => hSw.cell (p := ⟨b, o, none⟩) h); have hlk := look_none h2 f hf hno hSw; go_simp; try with_reducible rfl; done)); try simp only [Act.put, List.setIfInBounds_toArray, List.set_cons_zero, List.set_cons_succ])
  (refine held_takeA 11 (by rfl) ?_ (by kernel_rfl) (fun _ _ _ h => h) hs2r ?_ ?_; rotate_left; (focus (intro wq hSw; have hrd : ∀ b o, b < w2.heap.size → wq.cell? ⟨b, o, none⟩ = w2.cell? ⟨b, o, none⟩ := (fun b o h => hSw.cell (p := ⟨b, o, none⟩) h); have hlk := look_none h2 f hf hno hSw; go_simp; try with_reducible rfl; done)); try simp only [Act.put, List.setIfInBounds_toArray, List.set_cons_zero, List.set_cons_succ])
  refine wpAnyH_done (by kernel_rfl) ?_ _
  try refine NoPanic.normal ?_
  have h3 := h2.fwd (Below.refl _ _).drew
  have hq3 := hq.below (Below.refl w2.heap.size w2).drew lte2
  have hB3 := hB2.drew
  clear hB2 h2 hf5 hq c3 y0 y1 y2 y3 y4
  generalize w2.drew = w3 at *
  go_wp2_with (refine wpList_store_blk rfl hq3 62 (.tmp 4) (.tmp 18) rfl rfl rfl rfl got_entry (by simp [Value.oneCell']) ?_; intro w4 hq4 hg4)
  try rw [Exit.noGoto_ret]
  refine bodyPost_ret (results_ct rfl _ rfl (load_blk hq4 Try.underlying62 rfl got_entry)) rfl ?_
  exact ⟨rfl, below_own hB3 hg4 hB3.size (by have := heb.out; omega)⟩
set_option maxRecDepth 100000 in
set_option maxHeartbeats 4000000 in
theorem peekF_hit {w : World} {g m e : Nat} {ro idl now ca we : Int} {dt : Nat → EnV} {bk nx : Nat → Nat} {l : List Nat} {x : Nat} (h : RingV w g m e ro idl now ca we l dt bk nx) (f : Flo) (hf : FloOk f) (hx : x ∈ l) (hxf : (dt x).fl = f) :
    Calls Try.prog 43 #[.pointer (some ⟨g, 0, none⟩), .agg #[.int .i64 f.pr, .int .u32 f.src, .int .u32 f.dst, .int .i64 f.sp, .int .i64 f.dp]] w fun en w' => en = .returned (.tuple #[enA (dt x), .bool true]) ∧ Below w.heap.size w w' := by
  have hB := (Below.refl w.heap.size w).alloc (Nat.le_refl _) (.cells #[.int .i64 f.pr, .int .u32 f.src, .int .u32 f.dst, .int .i64 f.sp, .int .i64 f.dp] 57)
  have hf4 := Blk.new w 57 #[.int .i64 f.pr, .int .u32 f.src, .int .u32 f.dst, .int .i64 f.sp, .int .i64 f.dp]
  have h1 := h.fwd hB
  go_enter Try.func43, Try.ntmps43
  have hB2 := hB.alloc hB.size (.cells #[.int .i64 0, .int .u32 0, .int .u32 0, .int .i64 0, .int .i64 0, .int .i64 0, .int .i64 0] 62)
  have hf5 := hf4.alloc (.cells #[.int .i64 0, .int .u32 0, .int .u32 0, .int .i64 0, .int .i64 0, .int .i64 0, .int .i64 0] 62)
  have hq := Blk.new (w.alloc (.cells #[.int .i64 f.pr, .int .u32 f.src, .int .u32 f.dst, .int .i64 f.sp, .int .i64 f.dp] 57)) 62 #[.int .i64 0, .int .u32 0, .int .u32 0, .int .i64 0, .int .i64 0, .int .i64 0, .int .i64 0]
  rw [show (w.alloc (.cells #[.int .i64 f.pr, .int .u32 f.src, .int .u32 f.dst, .int .i64 f.sp, .int .i64 f.dp] 57)).heap.size = w.heap.size + 1 by simp] at hq
  have h2 := h.fwd hB2
  clear hB hf4 h1
  go_upto_region 1 with (fail)
  generalize (w.alloc (.cells #[.int .i64 f.pr, .int .u32 f.src, .int .u32 f.dst, .int .i64 f.sp, .int .i64 f.dp] 57)).alloc (.cells #[.int .i64 0, .int .u32 0, .int .u32 0, .int .i64 0, .int .i64 0, .int .i64 0, .int .i64 0] 62) = w2 at *
  have hlt := h.lt
  obtain ⟨fb, hfb⟩ : ∃ fb, fb = w.heap.size := ⟨_, rfl⟩
  obtain ⟨eb, heb⟩ : ∃ eb, eb = w.heap.size + 1 := ⟨_, rfl⟩
  rw [← heb] at hq
  rw [← hfb] at hf5
  have hge : g ≠ eb := by omega
  have hfe : fb ≠ eb := by omega
  have c3 : w2.cell? ⟨g, 3, none⟩ = some (.map (some m)) := h2.blk.cellv 3 rfl
  have y0 : w2.cell? ⟨fb, 0, none⟩ = some (.int .i64 f.pr) := hf5.cellv 0 rfl
  have y1 : w2.cell? ⟨fb, 1, none⟩ = some (.int .u32 f.src) := hf5.cellv 1 rfl
  have y2 : w2.cell? ⟨fb, 2, none⟩ = some (.int .u32 f.dst) := hf5.cellv 2 rfl
  have y3 : w2.cell? ⟨fb, 3, none⟩ = some (.int .i64 f.sp) := hf5.cellv 3 rfl
  have y4 : w2.cell? ⟨fb, 4, none⟩ = some (.int .i64 f.dp) := hf5.cellv 4 rfl
  have ltg2 := h2.blk.lt
  have ltf2 := hf5.lt
  have lte2 := hq.lt
  rw [← hfb, show fb + 1 = eb by omega]
  replace heb := Lib.hid heb
  replace hfb := Lib.hid hfb
  -- region 1: 0 1C 2 3 4 5 6 7 8 9 10 11
  try refine wp_region_noPanic ?_
  have hs3r : Below w2.heap.size w2 w2.drew := (Below.refl _ _).drew
  refine wp_region_held_drew (S := fun w' => Below w2.heap.size w2 w') (by kernel_rfl) hs3r (fun _ => ?_)
  (refine held_takeA 0 (by rfl) ?_ (by kernel_rfl) (fun _ _ _ h => h) hs3r ?_ ?_; rotate_left; (focus (intro wq hSw; have hrd : ∀ b o, b < w2.heap.size → wq.cell? ⟨b, o, none⟩ = w2.cell? ⟨b, o, none⟩ := (fun b o h => hSw.cell (p := ⟨b, o, none⟩) h); have hlk := look_drew h2 f hf hx hxf hSw; go_simp; try with_reducible rfl; done)); try simp only [Act.put, List.setIfInBounds_toArray, List.set_cons_zero, List.set_cons_succ])
  refine held_callA 1 (by rfl) (by kernel_rfl) (by rfl) (fun KQ hKQ => ?_)
  go_simp
  refine (madeF_in (h2.fwd (Below.refl _ _).drew)).mono ?_
  rintro en w' ⟨rfl, rfl⟩
  have hs4r := (show Below w2.heap.size w2 w2.drew from (Below.refl _ _).drew)
  refine hKQ.out _ _ hs4r ?_
  clear hKQ KQ
  try simp only [Act.put, List.setIfInBounds_toArray, List.set_cons_zero, List.set_cons_succ]
  (refine held_takeA 2 (by rfl) ?_ (by kernel_rfl) (fun _ _ _ h => h) hs4r ?_ ?_; rotate_left; (focus (intro wq hSw; have hrd : ∀ b o, b < w2.heap.size → wq.cell? ⟨b, o, none⟩ = w2.cell? ⟨b, o, none⟩ := (fun b o h => hSw.cell (p := ⟨b, o, none⟩) h); have hlk := look_drew h2 f hf hx hxf hSw; go_simp; try with_reducible rfl; done)); try simp only [Act.put, List.setIfInBounds_toArray, List.set_cons_zero, List.set_cons_succ])
  (refine held_takeA 3 (by rfl) ?_ (by kernel_rfl) (fun _ _ _ h => h) hs4r ?_ ?_; rotate_left; (focus (intro wq hSw; have hrd : ∀ b o, b < w2.heap.size → wq.cell? ⟨b, o, none⟩ = w2.cell? ⟨b, o, none⟩ := (fun b o h => hSw.cell (p := ⟨b, o, none⟩) h); have hlk := look_drew h2 f hf hx hxf hSw; go_simp; try with_reducible rfl; done)); try simp only [Act.put, List.setIfInBounds_toArray, List.set_cons_zero, List.set_cons_succ])
  (refine held_takeA 4 (by rfl) ?_ (by kernel_rfl) (fun _ _ _ h => h) hs4r ?_ ?_; rotate_left; (focus (intro wq hSw; have hrd : ∀ b o, b < w2.heap.size → wq.cell? ⟨b, o, none⟩ = w2.cell? ⟨b, o, none⟩ := (fun b o h => hSw.cell (p := ⟨b, o, none⟩) h); have hlk := look_drew h2 f hf hx hxf hSw; go_simp; try with_reducible rfl; done)); try simp only [Act.put, List.setIfInBounds_toArray, List.set_cons_zero, List.set_cons_succ])
  (refine held_takeA 5 (by rfl) ?_ (by kernel_rfl) (fun _ _ _ h => h) hs4r ?_ ?_; rotate_left; (focus (intro wq hSw; have hrd : ∀ b o, b < w2.heap.size → wq.cell? ⟨b, o, none⟩ = w2.cell? ⟨b, o, none⟩ := (fun b o h => hSw.cell (p := ⟨b, o, none⟩) h); have hlk := look_drew h2 f hf hx hxf hSw; go_simp; try with_reducible rfl; done)); try simp only [Act.put, List.setIfInBounds_toArray, List.set_cons_zero, List.set_cons_succ])
  (refine held_takeA 6 (by rfl) ?_ (by kernel_rfl) (fun _ _ _ h => h) hs4r ?_ ?_; rotate_left; (focus (intro wq hSw; have hrd : ∀ b o, b < w2.heap.size → wq.cell? ⟨b, o, none⟩ = w2.cell? ⟨b, o, none⟩ := (fun b o h => hSw.cell (p := ⟨b, o, none⟩) h); have hlk := look_drew h2 f hf hx hxf hSw; go_simp; try with_reducible rfl; done)); try simp only [Act.put, List.setIfInBounds_toArray, List.set_cons_zero, List.set_cons_succ])
  (refine held_takeA 7 (by rfl) ?_ (by kernel_rfl) (fun _ _ _ h => h) hs4r ?_ ?_; rotate_left; (focus (intro wq hSw; have hrd : ∀ b o, b < w2.heap.size → wq.cell? ⟨b, o, none⟩ = w2.cell? ⟨b, o, none⟩ := (fun b o h => hSw.cell (p := ⟨b, o, none⟩) h); have hlk := look_drew h2 f hf hx hxf hSw; go_simp; try with_reducible rfl; done)); try simp only [Act.put, List.setIfInBounds_toArray, List.set_cons_zero, List.set_cons_succ])
  (refine held_takeA 8 (by rfl) ?_ (by kernel_rfl) (fun _ _ _ h => h) hs4r ?_ ?_; rotate_left; (focus (intro wq hSw; have hrd : ∀ b o, b < w2.heap.size → wq.cell? ⟨b, o, none⟩ = w2.cell? ⟨b, o, none⟩ := (fun b o h => hSw.cell (p := ⟨b, o, none⟩) h); have hlk := look_drew h2 f hf hx hxf hSw; go_simp; try with_reducible rfl; done)); try simp only [Act.put, List.setIfInBounds_toArray, List.set_cons_zero, List.set_cons_succ])
  (refine held_takeA 9 (by rfl) ?_ (by kernel_rfl) (fun _ _ _ h => h) hs4r ?_ ?_; rotate_left; (focus (intro wq hSw; have hrd : ∀ b o, b < w2.heap.size → wq.cell? ⟨b, o, none⟩ = w2.cell? ⟨b, o, none⟩ := (fun b o h => hSw.cell (p := ⟨b, o, none⟩) h); have hlk := look_drew h2 f hf hx hxf hSw; go_simp; try with_reducible rfl; done)); try simp only [Act.put, List.setIfInBounds_toArray, List.set_cons_zero, List.set_cons_succ])
  (refine held_takeA 10 (by rfl) ?_ (by kernel_rfl) (fun _ _ _ h => h) hs4r ?_ ?_; rotate_left; (focus (intro wq hSw; have hrd : ∀ b o, b < w2.heap.size → wq.cell? ⟨b, o, none⟩ = w2.cell? ⟨b, o, none⟩ := (fun b o h => hSw.cell (p := ⟨b, o, none⟩) h); have hlk := look_drew h2 f hf hx hxf hSw; go_simp; try with_reducible rfl; done)); try simp only [Act.put, List.setIfInBounds_toArray, List.set_cons_zero, List.set_cons_succ])
  (refine held_takeA 11 (by rfl) ?_ (by kernel_rfl) (fun _ _ _ h => h) hs4r ?_ ?_; rotate_left; (focus (intro wq hSw; have hrd : ∀ b o, b < w2.heap.size → wq.cell? ⟨b, o, none⟩ = w2.cell? ⟨b, o, none⟩ := (fun b o h => hSw.cell (p := ⟨b, o, none⟩) h); have hlk := look_drew h2 f hf hx hxf hSw; go_simp; try with_reducible rfl; done)); try simp only [Act.put, List.setIfInBounds_toArray, List.set_cons_zero, List.set_cons_succ])
  refine wpAnyH_done (by kernel_rfl) ?_ _
  try refine NoPanic.normal ?_
  have h3 := h2.fwd (Below.refl _ _).drew
  have hf3 := hf5.below (Below.refl w2.heap.size w2).drew ltf2
  have hq3 := hq.below (Below.refl w2.heap.size w2).drew lte2
  have hB3 := hB2.drew
  clear hB2 h2 hf5 hq c3 y0 y1 y2 y3 y4 ltg2 ltf2 lte2
  generalize w2.drew = w3 at *
  have hx3 := h3.nod x (List.mem_cons_of_mem _ hx)
  have c3 : w3.cell? ⟨g, 3, none⟩ = some (.map (some m)) := h3.blk.cellv 3 rfl
  have y0 : w3.cell? ⟨fb, 0, none⟩ = some (.int .i64 f.pr) := hf3.cellv 0 rfl
  have y1 : w3.cell? ⟨fb, 1, none⟩ = some (.int .u32 f.src) := hf3.cellv 1 rfl
  have y2 : w3.cell? ⟨fb, 2, none⟩ = some (.int .u32 f.dst) := hf3.cellv 2 rfl
  have y3 : w3.cell? ⟨fb, 3, none⟩ = some (.int .i64 f.sp) := hf3.cellv 3 rfl
  have y4 : w3.cell? ⟨fb, 4, none⟩ = some (.int .i64 f.dp) := hf3.cellv 4 rfl
  have x0 : w3.cell? ⟨x, 0, none⟩ = some (.int .i64 (dt x).fl.pr) := hx3.cellv 0 rfl
  have x1 : w3.cell? ⟨x, 1, none⟩ = some (.int .u32 (dt x).fl.src) := hx3.cellv 1 rfl
  have x2 : w3.cell? ⟨x, 2, none⟩ = some (.int .u32 (dt x).fl.dst) := hx3.cellv 2 rfl
  have x3 : w3.cell? ⟨x, 3, none⟩ = some (.int .i64 (dt x).fl.sp) := hx3.cellv 3 rfl
  have x4 : w3.cell? ⟨x, 4, none⟩ = some (.int .i64 (dt x).fl.dp) := hx3.cellv 4 rfl
  have x5 : w3.cell? ⟨x, 5, none⟩ = some (.int .i64 (dt x).be) := hx3.cellv 5 rfl
  have x6 : w3.cell? ⟨x, 6, none⟩ = some (.int .i64 (dt x).la) := hx3.cellv 6 rfl
  have ltg2 := h3.blk.lt
  have ltf2 := hf3.lt
  have lte2 := hq3.lt
  have ltx2 := hx3.lt
  have hxe : x ≠ eb := by have := hlt.2.2 x (List.mem_cons_of_mem _ hx); have := heb.out; omega
  have hme : m ≠ eb := by have := hlt.2.1; have := heb.out; omega
  have hne : ∀ k ∈ e :: l, k ≠ eb := fun k hk => by have := hlt.2.2 k hk; have := heb.out; omega
  go_upto_region 3 with (fail)
  -- region 3: 0 1 2 3 4 5 6 7 8 9M 10
  try refine wp_region_noPanic ?_
  have hs5r : w3.grownBy w3.drew (some eb) := grown_drew (grown_refl _ _)
  refine wp_region_held_drew (S := fun w' => w3.grownBy w' (some eb)) (by kernel_rfl) hs5r (fun _ => ?_)
  (refine held_takeA 0 (by rfl) ?_ (by kernel_rfl) (fun _ _ _ h => h) hs5r ?_ ?_; rotate_left; (focus (intro wq hSw; have hrd : ∀ b' o, b' < w3.heap.size → b' ≠ eb → wq.cell? ⟨b', o, none⟩ = w3.cell? ⟨b', o, none⟩ := (fun b' o h hne => grown_cell hSw h hne); (try have hlk := look_row h3 f hf hx hxf hSw hge hme hne); go_simp; try with_reducible rfl; done)); try simp only [Act.put, List.setIfInBounds_toArray, List.set_cons_zero, List.set_cons_succ])
  (refine held_takeA 1 (by rfl) ?_ (by kernel_rfl) (fun _ _ _ h => h) hs5r ?_ ?_; rotate_left; (focus (intro wq hSw; have hrd : ∀ b' o, b' < w3.heap.size → b' ≠ eb → wq.cell? ⟨b', o, none⟩ = w3.cell? ⟨b', o, none⟩ := (fun b' o h hne => grown_cell hSw h hne); (try have hlk := look_row h3 f hf hx hxf hSw hge hme hne); go_simp; try with_reducible rfl; done)); try simp only [Act.put, List.setIfInBounds_toArray, List.set_cons_zero, List.set_cons_succ])
  (refine held_takeA 2 (by rfl) ?_ (by kernel_rfl) (fun _ _ _ h => h) hs5r ?_ ?_; rotate_left; (focus (intro wq hSw; have hrd : ∀ b' o, b' < w3.heap.size → b' ≠ eb → wq.cell? ⟨b', o, none⟩ = w3.cell? ⟨b', o, none⟩ := (fun b' o h hne => grown_cell hSw h hne); (try have hlk := look_row h3 f hf hx hxf hSw hge hme hne); go_simp; try with_reducible rfl; done)); try simp only [Act.put, List.setIfInBounds_toArray, List.set_cons_zero, List.set_cons_succ])
  (refine held_takeA 3 (by rfl) ?_ (by kernel_rfl) (fun _ _ _ h => h) hs5r ?_ ?_; rotate_left; (focus (intro wq hSw; have hrd : ∀ b' o, b' < w3.heap.size → b' ≠ eb → wq.cell? ⟨b', o, none⟩ = w3.cell? ⟨b', o, none⟩ := (fun b' o h hne => grown_cell hSw h hne); (try have hlk := look_row h3 f hf hx hxf hSw hge hme hne); go_simp; try with_reducible rfl; done)); try simp only [Act.put, List.setIfInBounds_toArray, List.set_cons_zero, List.set_cons_succ])
  (refine held_takeA 4 (by rfl) ?_ (by kernel_rfl) (fun _ _ _ h => h) hs5r ?_ ?_; rotate_left; (focus (intro wq hSw; have hrd : ∀ b' o, b' < w3.heap.size → b' ≠ eb → wq.cell? ⟨b', o, none⟩ = w3.cell? ⟨b', o, none⟩ := (fun b' o h hne => grown_cell hSw h hne); (try have hlk := look_row h3 f hf hx hxf hSw hge hme hne); go_simp; try with_reducible rfl; done)); try simp only [Act.put, List.setIfInBounds_toArray, List.set_cons_zero, List.set_cons_succ])
  (refine held_takeA 5 (by rfl) ?_ (by kernel_rfl) (fun _ _ _ h => h) hs5r ?_ ?_; rotate_left; (focus (intro wq hSw; have hrd : ∀ b' o, b' < w3.heap.size → b' ≠ eb → wq.cell? ⟨b', o, none⟩ = w3.cell? ⟨b', o, none⟩ := (fun b' o h hne => grown_cell hSw h hne); (try have hlk := look_row h3 f hf hx hxf hSw hge hme hne); go_simp; try with_reducible rfl; done)); try simp only [Act.put, List.setIfInBounds_toArray, List.set_cons_zero, List.set_cons_succ])
  (refine held_takeA 6 (by rfl) ?_ (by kernel_rfl) (fun _ _ _ h => h) hs5r ?_ ?_; rotate_left; (focus (intro wq hSw; have hrd : ∀ b' o, b' < w3.heap.size → b' ≠ eb → wq.cell? ⟨b', o, none⟩ = w3.cell? ⟨b', o, none⟩ := (fun b' o h hne => grown_cell hSw h hne); (try have hlk := look_row h3 f hf hx hxf hSw hge hme hne); go_simp; try with_reducible rfl; done)); try simp only [Act.put, List.setIfInBounds_toArray, List.set_cons_zero, List.set_cons_succ])
  (refine held_takeA 7 (by rfl) ?_ (by kernel_rfl) (fun _ _ _ h => h) hs5r ?_ ?_; rotate_left; (focus (intro wq hSw; have hrd : ∀ b' o, b' < w3.heap.size → b' ≠ eb → wq.cell? ⟨b', o, none⟩ = w3.cell? ⟨b', o, none⟩ := (fun b' o h hne => grown_cell hSw h hne); (try have hlk := look_row h3 f hf hx hxf hSw hge hme hne); go_simp; try with_reducible rfl; done)); try simp only [Act.put, List.setIfInBounds_toArray, List.set_cons_zero, List.set_cons_succ])
  (refine held_takeA 8 (by rfl) ?_ (by kernel_rfl) (fun _ _ _ h => h) hs5r ?_ ?_; rotate_left; (focus (intro wq hSw; have hrd : ∀ b' o, b' < w3.heap.size → b' ≠ eb → wq.cell? ⟨b', o, none⟩ = w3.cell? ⟨b', o, none⟩ := (fun b' o h hne => grown_cell hSw h hne); (try have hlk := look_row h3 f hf hx hxf hSw hge hme hne); go_simp; try with_reducible rfl; done)); try simp only [Act.put, List.setIfInBounds_toArray, List.set_cons_zero, List.set_cons_succ])
  refine held_callA 9 (by rfl) (by kernel_rfl) (by rfl) (fun KQ hKQ => ?_)
  refine wp_store_blk (hq3.below (Below.refl w3.heap.size w3).drew lte2) 62 (.tmp 4) (.tmp 27) (by rfl) (by rfl) (by rfl) (by rfl) (by exact got_entry) (by simp [Value.oneCell']) ?_
  intro w4 hq4 hg4
  refine hKQ.out _ _ (grown_trans hs5r hg4) (held_mono (S' := fun w' => w4.grownBy w' (some eb)) (fun w' h => grown_trans (grown_trans hs5r hg4) h) _ _ _ _ ?_)
  clear hKQ KQ
  have hs6r : w4.grownBy w4 (some eb) := grown_refl _ _
  try simp only [Act.put]
  (refine held_takeA 10 (by rfl) ?_ (by kernel_rfl) (fun _ _ _ h => h) hs6r ?_ ?_; rotate_left; (focus (intro wq hSw; have hrd : ∀ b' o, b' < w4.heap.size → b' ≠ eb → wq.cell? ⟨b', o, none⟩ = w4.cell? ⟨b', o, none⟩ := (fun b' o h hne => grown_cell hSw h hne); (try have hlk := look_row h3 f hf hx hxf hSw hge hme hne); go_simp; try with_reducible rfl; done)); try simp only [Act.put, List.setIfInBounds_toArray, List.set_cons_zero, List.set_cons_succ])
  refine wpAnyH_done (by kernel_rfl) ?_ _
  try refine NoPanic.normal ?_
  have hg34 : w3.grownBy w4 (some eb) := grown_trans (grown_drew (grown_refl w3 (some eb))) hg4
  go_wp2_with fail
  try rw [Exit.noGoto_ret]
  refine bodyPost_ret (results_ct rfl _ rfl (load_blk hq4 Try.underlying62 rfl got_entry)) rfl ?_
  refine ⟨?_, below_own hB3 hg34 hB3.size (by have := heb.out; omega)⟩
  unfold enA
  rw [hxf]
  rfl
set_option maxRecDepth 100000 in
set_option maxHeartbeats 4000000 in
theorem dropF_miss {w : World} {g m e : Nat} {ro idl now ca we : Int} {dt : Nat → EnV} {bk nx : Nat → Nat} {l : List Nat} (h : RingV w g m e ro idl now ca we l dt bk nx) (f : Flo) (hf : FloOk f) (hno : ∀ k ∈ l, (dt k).fl ≠ f) :
    Calls Try.prog 45 #[.pointer (some ⟨g, 0, none⟩), .agg #[.int .i64 f.pr, .int .u32 f.src, .int .u32 f.dst, .int .i64 f.sp, .int .i64 f.dp]] w fun en w' => en = .returned (.bool false) ∧ Below w.heap.size w w' := by
  have hB := (Below.refl w.heap.size w).alloc (Nat.le_refl _) (.cells #[.int .i64 f.pr, .int .u32 f.src, .int .u32 f.dst, .int .i64 f.sp, .int .i64 f.dp] 57)
  have hf4 := Blk.new w 57 #[.int .i64 f.pr, .int .u32 f.src, .int .u32 f.dst, .int .i64 f.sp, .int .i64 f.dp]
  have h2 := h.fwd hB
  have hlt := h.lt
  go_enter Try.func45, Try.ntmps45
  go_upto_region 1 with (fail)
  generalize w.alloc (.cells #[.int .i64 f.pr, .int .u32 f.src, .int .u32 f.dst, .int .i64 f.sp, .int .i64 f.dp] 57) = w2 at *
  have c3 : w2.cell? ⟨g, 3, none⟩ = some (.map (some m)) := h2.blk.cellv 3 rfl
  have y0 : w2.cell? ⟨w.heap.size, 0, none⟩ = some (.int .i64 f.pr) := hf4.cellv 0 rfl
  have y1 : w2.cell? ⟨w.heap.size, 1, none⟩ = some (.int .u32 f.src) := hf4.cellv 1 rfl
  have y2 : w2.cell? ⟨w.heap.size, 2, none⟩ = some (.int .u32 f.dst) := hf4.cellv 2 rfl
  have y3 : w2.cell? ⟨w.heap.size, 3, none⟩ = some (.int .i64 f.sp) := hf4.cellv 3 rfl
  have y4 : w2.cell? ⟨w.heap.size, 4, none⟩ = some (.int .i64 f.dp) := hf4.cellv 4 rfl
  have ltg2 := h2.blk.lt
  have ltf2 := hf4.lt
  -- region 1: 0 1C 2 3 4 5 6 7 8 9 10 11
  try refine wp_region_noPanic ?_
  have hs7r : Below w2.heap.size w2 w2.drew := (Below.refl _ _).drew
  refine wp_region_held_drew (S := fun w' => Below w2.heap.size w2 w') (by kernel_rfl) hs7r (fun _ => ?_)
  (refine held_takeA 0 (by rfl) ?_ (by kernel_rfl) (fun _ _ _ h => h) hs7r ?_ ?_; rotate_left; (focus (intro wq hSw; have hrd : ∀ b o, b < w2.heap.size → wq.cell? ⟨b, o, none⟩ = w2.cell? ⟨b, o, none⟩ := (fun b o h => hSw.cell (p := ⟨b, o, none⟩) h); have hlk := look_none h2 f hf hno hSw; go_simp; try with_reducible rfl; done)); try simp only [Act.put, List.setIfInBounds_toArray, List.set_cons_zero, List.set_cons_succ])
  refine held_callA 1 (by rfl) (by kernel_rfl) (by rfl) (fun KQ hKQ => ?_)
  go_simp
  refine (madeF_in (h2.fwd (Below.refl _ _).drew)).mono ?_
  rintro en w' ⟨rfl, rfl⟩
  have hs8r := (show Below w2.heap.size w2 w2.drew from (Below.refl _ _).drew)
  refine hKQ.out _ _ hs8r ?_
  clear hKQ KQ
  try simp only [Act.put, List.setIfInBounds_toArray, List.set_cons_zero, List.set_cons_succ]
  (refine held_takeA 2 (by rfl) ?_ (by kernel_rfl) (fun _ _ _ h => h) hs8r ?_ ?_; rotate_left; (focus (intro wq hSw; have hrd : ∀ b o, b < w2.heap.size → wq.cell? ⟨b, o, none⟩ = w2.cell? ⟨b, o, none⟩ := (fun b o h => hSw.cell (p := ⟨b, o, none⟩) h); have hlk := look_none h2 f hf hno hSw; go_simp; try with_reducible rfl; done)); try simp only [Act.put, List.setIfInBounds_toArray, List.set_cons_zero, List.set_cons_succ])
  (refine held_takeA 3 (by rfl) ?_ (by kernel_rfl) (fun _ _ _ h => h) hs8r ?_ ?_; rotate_left; (focus (intro wq hSw; have hrd : ∀ b o, b < w2.heap.size → wq.cell? ⟨b, o, none⟩ = w2.cell? ⟨b, o, none⟩ := (fun b o h => hSw.cell (p := ⟨b, o, none⟩) h); have hlk := look_none h2 f hf hno hSw; go_simp; try with_reducible rfl; done)); try simp only [Act.put, List.setIfInBounds_toArray, List.set_cons_zero, List.set_cons_succ])
  (refine held_takeA 4 (by rfl) ?_ (by kernel_rfl) (fun _ _ _ h => h) hs8r ?_ ?_; rotate_left; (focus (intro wq hSw; have hrd : ∀ b o, b < w2.heap.size → wq.cell? ⟨b, o, none⟩ = w2.cell? ⟨b, o, none⟩ := (fun b o h => hSw.cell (p := ⟨b, o, none⟩) h); have hlk := look_none h2 f hf hno hSw; go_simp; try with_reducible rfl; done)); try simp only [Act.put, List.setIfInBounds_toArray, List.set_cons_zero, List.set_cons_succ])
  (refine held_takeA 5 (by rfl) ?_ (by kernel_rfl) (fun _ _ _ h => h) hs8r ?_ ?_; rotate_left; (focus (intro wq hSw; have hrd : ∀ b o, b < w2.heap.size → wq.cell? ⟨b, o, none⟩ = w2.cell? ⟨b, o, none⟩ := (fun b o h => hSw.cell (p := ⟨b, o, none⟩) h); have hlk := look_none h2 f hf hno hSw; go_simp; try with_reducible rfl; done)); try simp only [Act.put, List.setIfInBounds_toArray, List.set_cons_zero, List.set_cons_succ])
  (refine held_takeA 6 (by rfl) ?_ (by kernel_rfl) (fun _ _ _ h => h) hs8r ?_ ?_; rotate_left; (focus (intro wq hSw; have hrd : ∀ b o, b < w2.heap.size → wq.cell? ⟨b, o, none⟩ = w2.cell? ⟨b, o, none⟩ := (fun b o h => hSw.cell (p := ⟨b, o, none⟩) h); have hlk := look_none h2 f hf hno hSw; go_simp; try with_reducible rfl; done)); try simp only [Act.put, List.setIfInBounds_toArray, List.set_cons_zero, List.set_cons_succ])
  (refine held_takeA 7 (by rfl) ?_ (by kernel_rfl) (fun _ _ _ h => h) hs8r ?_ ?_; rotate_left; (focus (intro wq hSw; have hrd : ∀ b o, b < w2.heap.size → wq.cell? ⟨b, o, none⟩ = w2.cell? ⟨b, o, none⟩ := (fun b o h => hSw.cell (p := ⟨b, o, none⟩) h); have hlk := look_none h2 f hf hno hSw; go_simp; try with_reducible rfl; done)); try simp only [Act.put, List.setIfInBounds_toArray, List.set_cons_zero, List.set_cons_succ])
  (refine held_takeA 8 (by rfl) ?_ (by kernel_rfl) (fun _ _ _ h => h) hs8r ?_ ?_; rotate_left; (focus (intro wq hSw; have hrd : ∀ b o, b < w2.heap.size → wq.cell? ⟨b, o, none⟩ = w2.cell? ⟨b, o, none⟩ := (fun b o h => hSw.cell (p := ⟨b, o, none⟩) h); have hlk := look_none h2 f hf hno hSw; go_simp; try with_reducible rfl; done)); try simp only [Act.put, List.setIfInBounds_toArray, List.set_cons_zero, List.set_cons_succ])
  (refine held_takeA 9 (by rfl) ?_ (by kernel_rfl) (fun _ _ _ h => h) hs8r ?_ ?_; rotate_left; (focus (intro wq hSw; have hrd : ∀ b o, b < w2.heap.size → wq.cell? ⟨b, o, none⟩ = w2.cell? ⟨b, o, none⟩ := (fun b o h => hSw.cell (p := ⟨b, o, none⟩) h); have hlk := look_none h2 f hf hno hSw; go_simp; try with_reducible rfl; done)); try simp only [Act.put, List.setIfInBounds_toArray, List.set_cons_zero, List.set_cons_succ])
  (refine held_takeA 10 (by rfl) ?_ (by kernel_rfl) (fun _ _ _ h => h) hs8r ?_ ?_; rotate_left; (focus (intro wq hSw; have hrd : ∀ b o, b < w2.heap.size → wq.cell? ⟨b, o, none⟩ = w2.cell? ⟨b, o, none⟩ := (fun b o h => hSw.cell (p := ⟨b, o, none⟩) h); have hlk := look_none h2 f hf hno hSw; go_simp; try with_reducible rfl; done)); try simp only [Act.put, List.setIfInBounds_toArray, List.set_cons_zero, List.set_cons_succ])
  (refine held_takeA 11 (by rfl) ?_ (by kernel_rfl) (fun _ _ _ h => h) hs8r ?_ ?_; rotate_left; (focus (intro wq hSw; have hrd : ∀ b o, b < w2.heap.size → wq.cell? ⟨b, o, none⟩ = w2.cell? ⟨b, o, none⟩ := (fun b o h => hSw.cell (p := ⟨b, o, none⟩) h); have hlk := look_none h2 f hf hno hSw; go_simp; try with_reducible rfl; done)); try simp only [Act.put, List.setIfInBounds_toArray, List.set_cons_zero, List.set_cons_succ])
  refine wpAnyH_done (by kernel_rfl) ?_ _
  try refine NoPanic.normal ?_
  go_wp2_with fail
  go_ret
  exact ⟨rfl, hB.drew⟩
set_option maxRecDepth 100000 in
set_option maxHeartbeats 4000000 in
theorem dropF_hit {w : World} {g m e : Nat} {ro idl now ca we : Int} {dt : Nat → EnV} {bk nx : Nat → Nat} {p q : List Nat} {x : Nat} (h : RingV w g m e ro idl now ca we (p ++ x :: q) dt bk nx) (f : Flo) (hf : FloOk f) (hxf : (dt x).fl = f) :
    Calls Try.prog 45 #[.pointer (some ⟨g, 0, none⟩), .agg #[.int .i64 f.pr, .int .u32 f.src, .int .u32 f.dst, .int .i64 f.sp, .int .i64 f.dp]] w fun en w' => en = .returned (.bool true) ∧ RingV w' g m e ro idl now ca we (p ++ q) dt (upd bk (nx x) (bk x)) (upd nx (bk x) (nx x)) ∧ Chg w w' (fun k => k = m ∨ k ∈ e :: (p ++ x :: q)) := by
  have hx : x ∈ p ++ x :: q := by simp
  have hB := (Below.refl w.heap.size w).alloc (Nat.le_refl _) (.cells #[.int .i64 f.pr, .int .u32 f.src, .int .u32 f.dst, .int .i64 f.sp, .int .i64 f.dp] 57)
  have hf4 := Blk.new w 57 #[.int .i64 f.pr, .int .u32 f.src, .int .u32 f.dst, .int .i64 f.sp, .int .i64 f.dp]
  have h2 := h.fwd hB
  have hlt := h.lt
  go_enter Try.func45, Try.ntmps45
  go_upto_region 1 with (fail)
  generalize w.alloc (.cells #[.int .i64 f.pr, .int .u32 f.src, .int .u32 f.dst, .int .i64 f.sp, .int .i64 f.dp] 57) = w2 at *
  have c3 : w2.cell? ⟨g, 3, none⟩ = some (.map (some m)) := h2.blk.cellv 3 rfl
  have y0 : w2.cell? ⟨w.heap.size, 0, none⟩ = some (.int .i64 f.pr) := hf4.cellv 0 rfl
  have y1 : w2.cell? ⟨w.heap.size, 1, none⟩ = some (.int .u32 f.src) := hf4.cellv 1 rfl
  have y2 : w2.cell? ⟨w.heap.size, 2, none⟩ = some (.int .u32 f.dst) := hf4.cellv 2 rfl
  have y3 : w2.cell? ⟨w.heap.size, 3, none⟩ = some (.int .i64 f.sp) := hf4.cellv 3 rfl
  have y4 : w2.cell? ⟨w.heap.size, 4, none⟩ = some (.int .i64 f.dp) := hf4.cellv 4 rfl
  have ltg2 := h2.blk.lt
  have ltf2 := hf4.lt
  -- region 1: 0 1C 2 3 4 5 6 7 8 9 10 11
  try refine wp_region_noPanic ?_
  have hs9r : Below w2.heap.size w2 w2.drew := (Below.refl _ _).drew
  refine wp_region_held_drew (S := fun w' => Below w2.heap.size w2 w') (by kernel_rfl) hs9r (fun _ => ?_)
  (refine held_takeA 0 (by rfl) ?_ (by kernel_rfl) (fun _ _ _ h => h) hs9r ?_ ?_; rotate_left; (focus (intro wq hSw; have hrd : ∀ b o, b < w2.heap.size → wq.cell? ⟨b, o, none⟩ = w2.cell? ⟨b, o, none⟩ := (fun b o h => hSw.cell (p := ⟨b, o, none⟩) h); have hlk := look_drew h2 f hf hx hxf hSw; go_simp; try with_reducible rfl; done)); try simp only [Act.put, List.setIfInBounds_toArray, List.set_cons_zero, List.set_cons_succ])
  refine held_callA 1 (by rfl) (by kernel_rfl) (by rfl) (fun KQ hKQ => ?_)
  go_simp
  refine (madeF_in (h2.fwd (Below.refl _ _).drew)).mono ?_
  rintro en w' ⟨rfl, rfl⟩
  have hs10r := (show Below w2.heap.size w2 w2.drew from (Below.refl _ _).drew)
  refine hKQ.out _ _ hs10r ?_
  clear hKQ KQ
  try simp only [Act.put, List.setIfInBounds_toArray, List.set_cons_zero, List.set_cons_succ]
  (refine held_takeA 2 (by rfl) ?_ (by kernel_rfl) (fun _ _ _ h => h) hs10r ?_ ?_; rotate_left; (focus (intro wq hSw; have hrd : ∀ b o, b < w2.heap.size → wq.cell? ⟨b, o, none⟩ = w2.cell? ⟨b, o, none⟩ := (fun b o h => hSw.cell (p := ⟨b, o, none⟩) h); have hlk := look_drew h2 f hf hx hxf hSw; go_simp; try with_reducible rfl; done)); try simp only [Act.put, List.setIfInBounds_toArray, List.set_cons_zero, List.set_cons_succ])
  (refine held_takeA 3 (by rfl) ?_ (by kernel_rfl) (fun _ _ _ h => h) hs10r ?_ ?_; rotate_left; (focus (intro wq hSw; have hrd : ∀ b o, b < w2.heap.size → wq.cell? ⟨b, o, none⟩ = w2.cell? ⟨b, o, none⟩ := (fun b o h => hSw.cell (p := ⟨b, o, none⟩) h); have hlk := look_drew h2 f hf hx hxf hSw; go_simp; try with_reducible rfl; done)); try simp only [Act.put, List.setIfInBounds_toArray, List.set_cons_zero, List.set_cons_succ])
  (refine held_takeA 4 (by rfl) ?_ (by kernel_rfl) (fun _ _ _ h => h) hs10r ?_ ?_; rotate_left; (focus (intro wq hSw; have hrd : ∀ b o, b < w2.heap.size → wq.cell? ⟨b, o, none⟩ = w2.cell? ⟨b, o, none⟩ := (fun b o h => hSw.cell (p := ⟨b, o, none⟩) h); have hlk := look_drew h2 f hf hx hxf hSw; go_simp; try with_reducible rfl; done)); try simp only [Act.put, List.setIfInBounds_toArray, List.set_cons_zero, List.set_cons_succ])
  (refine held_takeA 5 (by rfl) ?_ (by kernel_rfl) (fun _ _ _ h => h) hs10r ?_ ?_; rotate_left; (focus (intro wq hSw; have hrd : ∀ b o, b < w2.heap.size → wq.cell? ⟨b, o, none⟩ = w2.cell? ⟨b, o, none⟩ := (fun b o h => hSw.cell (p := ⟨b, o, none⟩) h); have hlk := look_drew h2 f hf hx hxf hSw; go_simp; try with_reducible rfl; done)); try simp only [Act.put, List.setIfInBounds_toArray, List.set_cons_zero, List.set_cons_succ])
  (refine held_takeA 6 (by rfl) ?_ (by kernel_rfl) (fun _ _ _ h => h) hs10r ?_ ?_; rotate_left; (focus (intro wq hSw; have hrd : ∀ b o, b < w2.heap.size → wq.cell? ⟨b, o, none⟩ = w2.cell? ⟨b, o, none⟩ := (fun b o h => hSw.cell (p := ⟨b, o, none⟩) h); have hlk := look_drew h2 f hf hx hxf hSw; go_simp; try with_reducible rfl; done)); try simp only [Act.put, List.setIfInBounds_toArray, List.set_cons_zero, List.set_cons_succ])
  (refine held_takeA 7 (by rfl) ?_ (by kernel_rfl) (fun _ _ _ h => h) hs10r ?_ ?_; rotate_left; (focus (intro wq hSw; have hrd : ∀ b o, b < w2.heap.size → wq.cell? ⟨b, o, none⟩ = w2.cell? ⟨b, o, none⟩ := (fun b o h => hSw.cell (p := ⟨b, o, none⟩) h); have hlk := look_drew h2 f hf hx hxf hSw; go_simp; try with_reducible rfl; done)); try simp only [Act.put, List.setIfInBounds_toArray, List.set_cons_zero, List.set_cons_succ])
  (refine held_takeA 8 (by rfl) ?_ (by kernel_rfl) (fun _ _ _ h => h) hs10r ?_ ?_; rotate_left; (focus (intro wq hSw; have hrd : ∀ b o, b < w2.heap.size → wq.cell? ⟨b, o, none⟩ = w2.cell? ⟨b, o, none⟩ := (fun b o h => hSw.cell (p := ⟨b, o, none⟩) h); have hlk := look_drew h2 f hf hx hxf hSw; go_simp; try with_reducible rfl; done)); try simp only [Act.put, List.setIfInBounds_toArray, List.set_cons_zero, List.set_cons_succ])
  (refine held_takeA 9 (by rfl) ?_ (by kernel_rfl) (fun _ _ _ h => h) hs10r ?_ ?_; rotate_left; (focus (intro wq hSw; have hrd : ∀ b o, b < w2.heap.size → wq.cell? ⟨b, o, none⟩ = w2.cell? ⟨b, o, none⟩ := (fun b o h => hSw.cell (p := ⟨b, o, none⟩) h); have hlk := look_drew h2 f hf hx hxf hSw; go_simp; try with_reducible rfl; done)); try simp only [Act.put, List.setIfInBounds_toArray, List.set_cons_zero, List.set_cons_succ])
  (refine held_takeA 10 (by rfl) ?_ (by kernel_rfl) (fun _ _ _ h => h) hs10r ?_ ?_; rotate_left; (focus (intro wq hSw; have hrd : ∀ b o, b < w2.heap.size → wq.cell? ⟨b, o, none⟩ = w2.cell? ⟨b, o, none⟩ := (fun b o h => hSw.cell (p := ⟨b, o, none⟩) h); have hlk := look_drew h2 f hf hx hxf hSw; go_simp; try with_reducible rfl; done)); try simp only [Act.put, List.setIfInBounds_toArray, List.set_cons_zero, List.set_cons_succ])
  (refine held_takeA 11 (by rfl) ?_ (by kernel_rfl) (fun _ _ _ h => h) hs10r ?_ ?_; rotate_left; (focus (intro wq hSw; have hrd : ∀ b o, b < w2.heap.size → wq.cell? ⟨b, o, none⟩ = w2.cell? ⟨b, o, none⟩ := (fun b o h => hSw.cell (p := ⟨b, o, none⟩) h); have hlk := look_drew h2 f hf hx hxf hSw; go_simp; try with_reducible rfl; done)); try simp only [Act.put, List.setIfInBounds_toArray, List.set_cons_zero, List.set_cons_succ])
  refine wpAnyH_done (by kernel_rfl) ?_ _
  try refine NoPanic.normal ?_
  have h3 := h2.fwd (Below.refl _ _).drew
  have hf3 := hf4.below (Below.refl w2.heap.size w2).drew ltf2
  have hB3 := hB.drew
  clear hB h2 hf4 c3 y0 y1 y2 y3 y4 ltg2 ltf2
  generalize w2.drew = w3 at *
  have c3 : w3.cell? ⟨g, 3, none⟩ = some (.map (some m)) := h3.blk.cellv 3 rfl
  have y0 : w3.cell? ⟨w.heap.size, 0, none⟩ = some (.int .i64 f.pr) := hf3.cellv 0 rfl
  have y1 : w3.cell? ⟨w.heap.size, 1, none⟩ = some (.int .u32 f.src) := hf3.cellv 1 rfl
  have y2 : w3.cell? ⟨w.heap.size, 2, none⟩ = some (.int .u32 f.dst) := hf3.cellv 2 rfl
  have y3 : w3.cell? ⟨w.heap.size, 3, none⟩ = some (.int .i64 f.sp) := hf3.cellv 3 rfl
  have y4 : w3.cell? ⟨w.heap.size, 4, none⟩ = some (.int .i64 f.dp) := hf3.cellv 4 rfl
  have ltg2 := h3.blk.lt
  have ltf2 := hf3.lt
  go_upto_region 3 with (fail)
  have hlk := look_drew h3 f hf hx hxf (Below.refl _ _).drew
  go_still_tail 7, (by kernel_rfl)
  change wpList _ _ _ _ _ w3.drew
  go_upto_region 4 with (go_at_call 120; refine (goneF_any (h3.fwd (Below.refl _ _).drew)).mono ?_; rintro en w4 ⟨rfl, h4, hC4, -⟩)
  have hC34 : Chg w3 w4 (fun k => k = m ∨ k ∈ e :: (p ++ x :: q)) := (Chg.of_below (Below.refl _ _).drew).trans hC4 (fun _ _ q1 => q1)
  go_wp2_with fail
  go_ret
  exact ⟨rfl, h4, (Chg.of_below hB3).trans hC34 (fun _ _ q1 => q1)⟩
end Go.Proofs.Ytejgekoinbdhjaa
