import Derived.Test.YtecmhakapomepaaGreatMConfigForms5
import Derived.Deep.Cut
import Derived.WalkSpells
import Derived.Test.YtecmhakapomepaaGreatMConfigForms2
import Derived.BigGuardPart
/- pool: made, New, Add. -/
namespace Go.Proofs.YtecmhakapomepaaGreat
set_option linter.unusedVariables false
open Go Go.RowKit Go.Maps

theorem map_und : Tryz.prog.underlying 226 = some (.map 3 230) := Tryz.underlying226
@[go_sem] theorem neq_pmap (m : Option Nat) (w : World) : (binOp .neq 226 (.map m) (.map none)).run Tryz.prog w = .ok (.bool (!m.isNone)) w := Go.run_neq_map_nil w _ _ _ m map_und
@[go_sem] theorem make_pmap (w : World) : (Instr.makeMap 226 none).run Tryz.prog w = .ok (.map (some w.heap.size)) (w.alloc (.map #[] 0)) := rfl
set_option maxRecDepth 100000 in
theorem made_in {w : World} {g b : Nat} {pc : Int} {M : List Mem} (h : PoolIn w g b pc M) :
    Calls Tryz.prog 126 #[.pointer (some ⟨g, 0, none⟩)] w fun e w' => e = .returned (.bool true) ∧ w = w' := by
  have c1 : w.cell? ⟨g, 1, none⟩ = some (.map (some b)) := h.1.cellv 1 rfl
  go_enter Tryz.func126, Tryz.ntmps126
  go_wp2_with fail
  go_ret
  exact ⟨rfl, rfl⟩
def wtB (n : Int) : Bool := decide (0 ≤ n) && decide (n ≤ 100)
theorem isWeight_any (n : Int) (w : World) : Calls Tryz.prog 127 #[.int .i64 n] w fun e w' => e = .returned (.bool (wtB n)) ∧ w = w' := by
  go_enter Tryz.func127, Tryz.ntmps127
  go_wp2_with fail
  all_goals go_ret
  all_goals (refine ⟨ret_bool ?_, rfl⟩; simp_all [wtB] <;> omega)
theorem new_in (w : World) (pc : Int) (h1 : 1 ≤ pc) (h2 : pc ≤ 100) :
    Calls Tryz.prog 115 #[.int .i64 pc] w fun e w' => ∃ g b, e = .returned (.pointer (some ⟨g, 0, none⟩)) ∧ PoolIn w' g b pc [] ∧ w.heap.size ≤ g ∧ w.heap.size ≤ b ∧ Below w.heap.size w w' := by
  have d1 : decide (pc < 1) = false := by simp; omega
  have d2 : decide (100 < pc) = false := by simp; omega
  go_enter Tryz.func115, Tryz.ntmps115
  go_wp2_with fail
  go_ret
  refine ⟨_, _, rfl, ⟨by have := Blk.new (w.alloc (.map #[] 0)) 228 #[.int .i64 pc, .map (some w.heap.size)]; simpa using this, (Ent.made w).alloc _⟩, by simp, Nat.le_refl _, ((Below.refl _ _).alloc (Nat.le_refl _) _).alloc (by simp) _⟩
theorem new_no (w : World) (pc : Int) (h : pc < 1 ∨ 100 < pc) :
    Calls Tryz.prog 115 #[.int .i64 pc] w fun e w' => e = .returned (.pointer none) ∧ w = w' := by
  go_enter Tryz.func115, Tryz.ntmps115
  by_cases d : pc < 1
  · have d1 : decide (pc < 1) = true := by simpa using d
    go_wp2_with fail
    go_ret
    exact ⟨rfl, rfl⟩
  have d1 : decide (pc < 1) = false := by simpa using d
  have d2 : decide (100 < pc) = true := by simp; omega
  go_wp2_with fail
  go_ret
  exact ⟨rfl, rfl⟩
/-- may it be added? -/
def addOk (id ad wt : Int) : Bool := (decide (0 ≤ id) && decide (id ≤ 255)) && (ad != 0) && wtB wt
theorem no_id {M : List Mem} {id : Int} (h : ∀ m ∈ M, m.id ≠ id) : (Value.int .i64 id) ∉ (M.map memE).map Prod.fst := by
  rw [List.map_map]
  intro hm
  obtain ⟨m, h1, h2⟩ := List.mem_map.1 hm
  simp only [Function.comp, memE, Value.int.injEq] at h2
  exact h m h1 h2.2
theorem is_id {M : List Mem} {m : Mem} (h : m ∈ M) : (Value.int .i64 m.id, Value.agg (memC m)) ∈ M.map memE := List.mem_map.2 ⟨m, h, rfl⟩
theorem mem_zero (w : World) : (zeroValue 230).run Tryz.prog w = .ok (.agg #[.int .i64 0, .int .u32 0, .int .i64 0, .bool false, .bool false]) w := by kernel_rfl
theorem addNo_any (w : World) (g b : Nat) (pc : Int) (M : List Mem) (id ad wt : Int) (h : PoolIn w g b pc M) (hno : addOk id ad wt = false) :
    Calls Tryz.prog 117 #[.pointer (some ⟨g, 0, none⟩), .agg #[.int .i64 id, .int .u32 ad, .int .i64 wt]] w fun e w' => e = .returned (.int .i64 2) ∧ Below w.heap.size w w' := by
  have hB := (Below.refl w.heap.size w).alloc (Nat.le_refl _) (.cells #[.int .i64 id, .int .u32 ad, .int .i64 wt] 67)
  have hp := Blk.new w 67 #[.int .i64 id, .int .u32 ad, .int .i64 wt]
  have h1 := h.alloc (.cells #[.int .i64 id, .int .u32 ad, .int .i64 wt] 67)
  go_enter Tryz.func117, Tryz.ntmps117
  go_upto_region 1 with (fail)
  generalize w.alloc (.cells #[.int .i64 id, .int .u32 ad, .int .i64 wt] 67) = w1 at *
  have p0 : w1.cell? ⟨w.heap.size, 0, none⟩ = some (.int .i64 id) := hp.cellv 0 rfl
  have p1 : w1.cell? ⟨w.heap.size, 1, none⟩ = some (.int .u32 ad) := hp.cellv 1 rfl
  have p2 : w1.cell? ⟨w.heap.size, 2, none⟩ = some (.int .i64 wt) := hp.cellv 2 rfl
  go_wp2_with (first
    | (go_at_call 126; refine (made_in h1).mono ?_; rintro e w' ⟨rfl, rfl⟩)
    | (go_at_call 127; refine (isWeight_any _ _).mono ?_; rintro e w' ⟨rfl, rfl⟩; generalize hwt : wtB wt = wtb at *; cases wtb))
  all_goals first
    | (go_ret; exact ⟨rfl, hB⟩)
    | (exfalso; rw [addOk, hwt] at hno; simp at hno; omega)
set_option maxRecDepth 100000 in
set_option maxHeartbeats 2000000 in
theorem addThere (w : World) (g b : Nat) (pc : Int) (M : List Mem) (m : Mem) (ad wt : Int) (h : PoolIn w g b pc M) (hok : addOk m.id ad wt = true) (hm : m ∈ M) :
    Calls Tryz.prog 117 #[.pointer (some ⟨g, 0, none⟩), .agg #[.int .i64 m.id, .int .u32 ad, .int .i64 wt]] w fun e w' => e = .returned (.int .i64 13) ∧ PoolIn w' g b pc (M) ∧ w.grownBy w' (some b) := by
  have hi5 : (Tryz.prog.info? 230).map (·.size) = some 5 := by kernel_rfl
  have hB := (Below.refl w.heap.size w).alloc (Nat.le_refl _) (.cells #[.int .i64 m.id, .int .u32 ad, .int .i64 wt] 67)
  have hp := Blk.new w 67 #[.int .i64 m.id, .int .u32 ad, .int .i64 wt]
  have h1 := h.alloc (.cells #[.int .i64 m.id, .int .u32 ad, .int .i64 wt] 67)
  have hr1 : 0 ≤ m.id ∧ m.id ≤ 255 ∧ ad ≠ 0 ∧ wtB wt = true := by
    unfold addOk at hok; simp at hok; exact ⟨hok.1.1.1, hok.1.1.2, hok.1.2, hok.2⟩
  have hk := int_lit m.id (by omega) (by omega)
  go_enter Tryz.func117, Tryz.ntmps117
  go_upto_region 1 with (fail)
  generalize w.alloc (.cells #[.int .i64 m.id, .int .u32 ad, .int .i64 wt] 67) = w1 at *
  have p0 : w1.cell? ⟨w.heap.size, 0, none⟩ = some (.int .i64 m.id) := hp.cellv 0 rfl
  have p1 : w1.cell? ⟨w.heap.size, 1, none⟩ = some (.int .u32 ad) := hp.cellv 1 rfl
  have p2 : w1.cell? ⟨w.heap.size, 2, none⟩ = some (.int .i64 wt) := hp.cellv 2 rfl
  have c1 : w1.cell? ⟨g, 1, none⟩ = some (.map (some b)) := h1.1.cellv 1 rfl
  have ltp := hp.lt
  have ltg := h1.ltg
  have ltb := h1.ltb
  have d1 : decide (m.id < 0) = false := by simp; omega
  have d2 : decide (255 < m.id) = false := by simp; omega
  have d3 : (ad == 0) = false := by simpa using hr1.2.2.1
  go_upto_region 5 with (first
    | (go_at_call 126; refine (made_in h1).mono ?_; rintro e w' ⟨rfl, rfl⟩)
    | (go_at_call 127; refine (isWeight_any _ _).mono ?_; rintro e w' ⟨rfl, rfl⟩; rw [hr1.2.2.2]))
  have hm2 := is_id hm
  unfold memC at hm2
  -- region 5: 0 1 2 3 4 5 6 7 8 9 10M 11M 12
  try refine wp_region_noPanic ?_
  have hs1r : (fun w' => Below w1.heap.size w1 w') w1.drew := (Below.refl _ _).drew
  refine wp_region_held_drew (S := fun w' => Below w1.heap.size w1 w') (by kernel_rfl) hs1r (fun _ => ?_)
  (refine held_takeA 0 (by rfl) ?_ (by kernel_rfl) (fun _ _ _ h => h) hs1r ?_ ?_; rotate_left; (focus (intro wq hSw; have hrd := hSw; have hrd2 : ∀ b o, b < w1.heap.size → wq.cell? ⟨b, o, none⟩ = w1.cell? ⟨b, o, none⟩ := (fun b o h => Below.cell hSw (p := ⟨b, o, none⟩) h); have hlk := (h1.2.below hSw ltb).hit1 int_key map_und hk hm2; go_simp; try with_reducible rfl; done)); try simp only [Act.put, List.setIfInBounds_toArray, List.set_cons_zero, List.set_cons_succ])
  (refine held_takeA 1 (by rfl) ?_ (by kernel_rfl) (fun _ _ _ h => h) hs1r ?_ ?_; rotate_left; (focus (intro wq hSw; have hrd := hSw; have hrd2 : ∀ b o, b < w1.heap.size → wq.cell? ⟨b, o, none⟩ = w1.cell? ⟨b, o, none⟩ := (fun b o h => Below.cell hSw (p := ⟨b, o, none⟩) h); have hlk := (h1.2.below hSw ltb).hit1 int_key map_und hk hm2; go_simp; try with_reducible rfl; done)); try simp only [Act.put, List.setIfInBounds_toArray, List.set_cons_zero, List.set_cons_succ])
  (refine held_takeA 2 (by rfl) ?_ (by kernel_rfl) (fun _ _ _ h => h) hs1r ?_ ?_; rotate_left; (focus (intro wq hSw; have hrd := hSw; have hrd2 : ∀ b o, b < w1.heap.size → wq.cell? ⟨b, o, none⟩ = w1.cell? ⟨b, o, none⟩ := (fun b o h => Below.cell hSw (p := ⟨b, o, none⟩) h); have hlk := (h1.2.below hSw ltb).hit1 int_key map_und hk hm2; go_simp; try with_reducible rfl; done)); try simp only [Act.put, List.setIfInBounds_toArray, List.set_cons_zero, List.set_cons_succ])
  (refine held_takeA 3 (by rfl) ?_ (by kernel_rfl) (fun _ _ _ h => h) hs1r ?_ ?_; rotate_left; (focus (intro wq hSw; have hrd := hSw; have hrd2 : ∀ b o, b < w1.heap.size → wq.cell? ⟨b, o, none⟩ = w1.cell? ⟨b, o, none⟩ := (fun b o h => Below.cell hSw (p := ⟨b, o, none⟩) h); have hlk := (h1.2.below hSw ltb).hit1 int_key map_und hk hm2; go_simp; try with_reducible rfl; done)); try simp only [Act.put, List.setIfInBounds_toArray, List.set_cons_zero, List.set_cons_succ])
  (refine held_takeA 4 (by rfl) ?_ (by kernel_rfl) (fun _ _ _ h => h) hs1r ?_ ?_; rotate_left; (focus (intro wq hSw; have hrd := hSw; have hrd2 : ∀ b o, b < w1.heap.size → wq.cell? ⟨b, o, none⟩ = w1.cell? ⟨b, o, none⟩ := (fun b o h => Below.cell hSw (p := ⟨b, o, none⟩) h); have hlk := (h1.2.below hSw ltb).hit1 int_key map_und hk hm2; go_simp; try with_reducible rfl; done)); try simp only [Act.put, List.setIfInBounds_toArray, List.set_cons_zero, List.set_cons_succ])
  (refine held_takeA 5 (by rfl) ?_ (by kernel_rfl) (fun _ _ _ h => h) hs1r ?_ ?_; rotate_left; (focus (intro wq hSw; have hrd := hSw; have hrd2 : ∀ b o, b < w1.heap.size → wq.cell? ⟨b, o, none⟩ = w1.cell? ⟨b, o, none⟩ := (fun b o h => Below.cell hSw (p := ⟨b, o, none⟩) h); have hlk := (h1.2.below hSw ltb).hit1 int_key map_und hk hm2; go_simp; try with_reducible rfl; done)); try simp only [Act.put, List.setIfInBounds_toArray, List.set_cons_zero, List.set_cons_succ])
  (refine held_takeA 6 (by rfl) ?_ (by kernel_rfl) (fun _ _ _ h => h) hs1r ?_ ?_; rotate_left; (focus (intro wq hSw; have hrd := hSw; have hrd2 : ∀ b o, b < w1.heap.size → wq.cell? ⟨b, o, none⟩ = w1.cell? ⟨b, o, none⟩ := (fun b o h => Below.cell hSw (p := ⟨b, o, none⟩) h); have hlk := (h1.2.below hSw ltb).hit1 int_key map_und hk hm2; go_simp; try with_reducible rfl; done)); try simp only [Act.put, List.setIfInBounds_toArray, List.set_cons_zero, List.set_cons_succ])
  (refine held_takeA 7 (by rfl) ?_ (by kernel_rfl) (fun _ _ _ h => h) hs1r ?_ ?_; rotate_left; (focus (intro wq hSw; have hrd := hSw; have hrd2 : ∀ b o, b < w1.heap.size → wq.cell? ⟨b, o, none⟩ = w1.cell? ⟨b, o, none⟩ := (fun b o h => Below.cell hSw (p := ⟨b, o, none⟩) h); have hlk := (h1.2.below hSw ltb).hit1 int_key map_und hk hm2; go_simp; try with_reducible rfl; done)); try simp only [Act.put, List.setIfInBounds_toArray, List.set_cons_zero, List.set_cons_succ])
  (refine held_takeA 8 (by rfl) ?_ (by kernel_rfl) (fun _ _ _ h => h) hs1r ?_ ?_; rotate_left; (focus (intro wq hSw; have hrd := hSw; have hrd2 : ∀ b o, b < w1.heap.size → wq.cell? ⟨b, o, none⟩ = w1.cell? ⟨b, o, none⟩ := (fun b o h => Below.cell hSw (p := ⟨b, o, none⟩) h); have hlk := (h1.2.below hSw ltb).hit1 int_key map_und hk hm2; go_simp; try with_reducible rfl; done)); try simp only [Act.put, List.setIfInBounds_toArray, List.set_cons_zero, List.set_cons_succ])
  (refine held_takeA 9 (by rfl) ?_ (by kernel_rfl) (fun _ _ _ h => h) hs1r ?_ ?_; rotate_left; (focus (intro wq hSw; have hrd := hSw; have hrd2 : ∀ b o, b < w1.heap.size → wq.cell? ⟨b, o, none⟩ = w1.cell? ⟨b, o, none⟩ := (fun b o h => Below.cell hSw (p := ⟨b, o, none⟩) h); have hlk := (h1.2.below hSw ltb).hit1 int_key map_und hk hm2; go_simp; try with_reducible rfl; done)); try simp only [Act.put, List.setIfInBounds_toArray, List.set_cons_zero, List.set_cons_succ])
  refine held_callA 10 (by rfl) (by kernel_rfl) (by rfl) (fun KQ hKQ => ?_)
  go_simp
  have hw2 := (Below.refl w1.heap.size w1).drew.alloc (Nat.le_refl _) (.cells #[.int .i64 0, .int .u32 0, .int .i64 0, .bool false, .bool false] 230)
  have hr := Blk.new w1.drew 230 #[.int .i64 0, .int .u32 0, .int .i64 0, .bool false, .bool false]
  have hd : (w1.alloc (.cells #[.int .i64 0, .int .u32 0, .int .i64 0, .bool false, .bool false] 230)).drew = w1.drew.alloc (.cells #[.int .i64 0, .int .u32 0, .int .i64 0, .bool false, .bool false] 230) := rfl
  rw [hd]
  generalize w1.drew.alloc (.cells #[.int .i64 0, .int .u32 0, .int .i64 0, .bool false, .bool false] 230) = w2 at *
  clear hd
  have hs2r := hw2
  refine hKQ.out _ _ hs2r ?_
  clear hKQ KQ
  try simp only [Act.put, List.setIfInBounds_toArray, List.set_cons_zero, List.set_cons_succ]
  refine held_callA 11 (by rfl) (by kernel_rfl) (by rfl) (fun KQ hKQ => ?_)
  refine wp_store_blk hr 230 (.tmp 5) (.tmp 37) (by rfl) (by rfl) (by rfl) (by rfl) (by exact hi5) (by simp [Value.oneCell']) ?_
  intro w3 hr3 hg3
  have hw3 := below_own hw2 hg3 hw2.size (Nat.le_refl _)
  have hs3r := hw3
  refine hKQ.out _ _ hs3r ?_
  clear hKQ KQ
  try simp only [Act.put]
  (refine held_takeA 12 (by rfl) ?_ (by kernel_rfl) (fun _ _ _ h => h) hs3r ?_ ?_; rotate_left; (focus (intro wq hSw; have hrd := hSw; have hrd2 : ∀ b o, b < w1.heap.size → wq.cell? ⟨b, o, none⟩ = w1.cell? ⟨b, o, none⟩ := (fun b o h => Below.cell hSw (p := ⟨b, o, none⟩) h); have hlk := (h1.2.below hSw ltb).hit1 int_key map_und hk hm2; go_simp; try with_reducible rfl; done)); try simp only [Act.put, List.setIfInBounds_toArray, List.set_cons_zero, List.set_cons_succ])
  refine wpAnyH_done (by kernel_rfl) ?_ _
  try refine NoPanic.normal ?_
  clear hr hr3 hg3 hw2 p0 p1 p2 c1 ltp ltg ltb
  have h3 := h1.nx hw3
  have hB3 := hB.trans (hw3.mono hB.size)
  have hz3 := hB.size
  have ltp3 : w.heap.size < w1.heap.size := hp.lt
  have hp3 := hp.below hw3 ltp3
  go_wp2_with fail
  go_ret
  exact ⟨rfl, h3, grown_of_below hB3 (Nat.le_refl _) _⟩
set_option maxRecDepth 100000 in
set_option maxHeartbeats 2000000 in
theorem addFull (w : World) (g b : Nat) (pc : Int) (M : List Mem) (id ad wt : Int) (h : PoolIn w g b pc M) (hok : addOk id ad wt = true) (hnot : ∀ m ∈ M, m.id ≠ id) (hfull : 16 ≤ M.length) :
    Calls Tryz.prog 117 #[.pointer (some ⟨g, 0, none⟩), .agg #[.int .i64 id, .int .u32 ad, .int .i64 wt]] w fun e w' => e = .returned (.int .i64 6) ∧ PoolIn w' g b pc (M) ∧ w.grownBy w' (some b) := by
  have hi5 : (Tryz.prog.info? 230).map (·.size) = some 5 := by kernel_rfl
  have hB := (Below.refl w.heap.size w).alloc (Nat.le_refl _) (.cells #[.int .i64 id, .int .u32 ad, .int .i64 wt] 67)
  have hp := Blk.new w 67 #[.int .i64 id, .int .u32 ad, .int .i64 wt]
  have h1 := h.alloc (.cells #[.int .i64 id, .int .u32 ad, .int .i64 wt] 67)
  have hr1 : 0 ≤ id ∧ id ≤ 255 ∧ ad ≠ 0 ∧ wtB wt = true := by
    unfold addOk at hok; simp at hok; exact ⟨hok.1.1.1, hok.1.1.2, hok.1.2, hok.2⟩
  have hk := int_lit id (by omega) (by omega)
  go_enter Tryz.func117, Tryz.ntmps117
  go_upto_region 1 with (fail)
  generalize w.alloc (.cells #[.int .i64 id, .int .u32 ad, .int .i64 wt] 67) = w1 at *
  have p0 : w1.cell? ⟨w.heap.size, 0, none⟩ = some (.int .i64 id) := hp.cellv 0 rfl
  have p1 : w1.cell? ⟨w.heap.size, 1, none⟩ = some (.int .u32 ad) := hp.cellv 1 rfl
  have p2 : w1.cell? ⟨w.heap.size, 2, none⟩ = some (.int .i64 wt) := hp.cellv 2 rfl
  have c1 : w1.cell? ⟨g, 1, none⟩ = some (.map (some b)) := h1.1.cellv 1 rfl
  have ltp := hp.lt
  have ltg := h1.ltg
  have ltb := h1.ltb
  have d1 : decide (id < 0) = false := by simp; omega
  have d2 : decide (255 < id) = false := by simp; omega
  have d3 : (ad == 0) = false := by simpa using hr1.2.2.1
  go_upto_region 5 with (first
    | (go_at_call 126; refine (made_in h1).mono ?_; rintro e w' ⟨rfl, rfl⟩)
    | (go_at_call 127; refine (isWeight_any _ _).mono ?_; rintro e w' ⟨rfl, rfl⟩; rw [hr1.2.2.2]))
  have hm2 := no_id hnot
  -- region 5: 0 1 2 3 4 5 6 7 8 9 10M 11M 12
  try refine wp_region_noPanic ?_
  have hs4r : (fun w' => Below w1.heap.size w1 w') w1.drew := (Below.refl _ _).drew
  refine wp_region_held_drew (S := fun w' => Below w1.heap.size w1 w') (by kernel_rfl) hs4r (fun _ => ?_)
  (refine held_takeA 0 (by rfl) ?_ (by kernel_rfl) (fun _ _ _ h => h) hs4r ?_ ?_; rotate_left; (focus (intro wq hSw; have hrd := hSw; have hrd2 : ∀ b o, b < w1.heap.size → wq.cell? ⟨b, o, none⟩ = w1.cell? ⟨b, o, none⟩ := (fun b o h => Below.cell hSw (p := ⟨b, o, none⟩) h); have hlk := (h1.2.below hSw ltb).miss1 int_key map_und mem_zero hk hm2; go_simp; try with_reducible rfl; done)); try simp only [Act.put, List.setIfInBounds_toArray, List.set_cons_zero, List.set_cons_succ])
  (refine held_takeA 1 (by rfl) ?_ (by kernel_rfl) (fun _ _ _ h => h) hs4r ?_ ?_; rotate_left; (focus (intro wq hSw; have hrd := hSw; have hrd2 : ∀ b o, b < w1.heap.size → wq.cell? ⟨b, o, none⟩ = w1.cell? ⟨b, o, none⟩ := (fun b o h => Below.cell hSw (p := ⟨b, o, none⟩) h); have hlk := (h1.2.below hSw ltb).miss1 int_key map_und mem_zero hk hm2; go_simp; try with_reducible rfl; done)); try simp only [Act.put, List.setIfInBounds_toArray, List.set_cons_zero, List.set_cons_succ])
  (refine held_takeA 2 (by rfl) ?_ (by kernel_rfl) (fun _ _ _ h => h) hs4r ?_ ?_; rotate_left; (focus (intro wq hSw; have hrd := hSw; have hrd2 : ∀ b o, b < w1.heap.size → wq.cell? ⟨b, o, none⟩ = w1.cell? ⟨b, o, none⟩ := (fun b o h => Below.cell hSw (p := ⟨b, o, none⟩) h); have hlk := (h1.2.below hSw ltb).miss1 int_key map_und mem_zero hk hm2; go_simp; try with_reducible rfl; done)); try simp only [Act.put, List.setIfInBounds_toArray, List.set_cons_zero, List.set_cons_succ])
  (refine held_takeA 3 (by rfl) ?_ (by kernel_rfl) (fun _ _ _ h => h) hs4r ?_ ?_; rotate_left; (focus (intro wq hSw; have hrd := hSw; have hrd2 : ∀ b o, b < w1.heap.size → wq.cell? ⟨b, o, none⟩ = w1.cell? ⟨b, o, none⟩ := (fun b o h => Below.cell hSw (p := ⟨b, o, none⟩) h); have hlk := (h1.2.below hSw ltb).miss1 int_key map_und mem_zero hk hm2; go_simp; try with_reducible rfl; done)); try simp only [Act.put, List.setIfInBounds_toArray, List.set_cons_zero, List.set_cons_succ])
  (refine held_takeA 4 (by rfl) ?_ (by kernel_rfl) (fun _ _ _ h => h) hs4r ?_ ?_; rotate_left; (focus (intro wq hSw; have hrd := hSw; have hrd2 : ∀ b o, b < w1.heap.size → wq.cell? ⟨b, o, none⟩ = w1.cell? ⟨b, o, none⟩ := (fun b o h => Below.cell hSw (p := ⟨b, o, none⟩) h); have hlk := (h1.2.below hSw ltb).miss1 int_key map_und mem_zero hk hm2; go_simp; try with_reducible rfl; done)); try simp only [Act.put, List.setIfInBounds_toArray, List.set_cons_zero, List.set_cons_succ])
  (refine held_takeA 5 (by rfl) ?_ (by kernel_rfl) (fun _ _ _ h => h) hs4r ?_ ?_; rotate_left; (focus (intro wq hSw; have hrd := hSw; have hrd2 : ∀ b o, b < w1.heap.size → wq.cell? ⟨b, o, none⟩ = w1.cell? ⟨b, o, none⟩ := (fun b o h => Below.cell hSw (p := ⟨b, o, none⟩) h); have hlk := (h1.2.below hSw ltb).miss1 int_key map_und mem_zero hk hm2; go_simp; try with_reducible rfl; done)); try simp only [Act.put, List.setIfInBounds_toArray, List.set_cons_zero, List.set_cons_succ])
  (refine held_takeA 6 (by rfl) ?_ (by kernel_rfl) (fun _ _ _ h => h) hs4r ?_ ?_; rotate_left; (focus (intro wq hSw; have hrd := hSw; have hrd2 : ∀ b o, b < w1.heap.size → wq.cell? ⟨b, o, none⟩ = w1.cell? ⟨b, o, none⟩ := (fun b o h => Below.cell hSw (p := ⟨b, o, none⟩) h); have hlk := (h1.2.below hSw ltb).miss1 int_key map_und mem_zero hk hm2; go_simp; try with_reducible rfl; done)); try simp only [Act.put, List.setIfInBounds_toArray, List.set_cons_zero, List.set_cons_succ])
  (refine held_takeA 7 (by rfl) ?_ (by kernel_rfl) (fun _ _ _ h => h) hs4r ?_ ?_; rotate_left; (focus (intro wq hSw; have hrd := hSw; have hrd2 : ∀ b o, b < w1.heap.size → wq.cell? ⟨b, o, none⟩ = w1.cell? ⟨b, o, none⟩ := (fun b o h => Below.cell hSw (p := ⟨b, o, none⟩) h); have hlk := (h1.2.below hSw ltb).miss1 int_key map_und mem_zero hk hm2; go_simp; try with_reducible rfl; done)); try simp only [Act.put, List.setIfInBounds_toArray, List.set_cons_zero, List.set_cons_succ])
  (refine held_takeA 8 (by rfl) ?_ (by kernel_rfl) (fun _ _ _ h => h) hs4r ?_ ?_; rotate_left; (focus (intro wq hSw; have hrd := hSw; have hrd2 : ∀ b o, b < w1.heap.size → wq.cell? ⟨b, o, none⟩ = w1.cell? ⟨b, o, none⟩ := (fun b o h => Below.cell hSw (p := ⟨b, o, none⟩) h); have hlk := (h1.2.below hSw ltb).miss1 int_key map_und mem_zero hk hm2; go_simp; try with_reducible rfl; done)); try simp only [Act.put, List.setIfInBounds_toArray, List.set_cons_zero, List.set_cons_succ])
  (refine held_takeA 9 (by rfl) ?_ (by kernel_rfl) (fun _ _ _ h => h) hs4r ?_ ?_; rotate_left; (focus (intro wq hSw; have hrd := hSw; have hrd2 : ∀ b o, b < w1.heap.size → wq.cell? ⟨b, o, none⟩ = w1.cell? ⟨b, o, none⟩ := (fun b o h => Below.cell hSw (p := ⟨b, o, none⟩) h); have hlk := (h1.2.below hSw ltb).miss1 int_key map_und mem_zero hk hm2; go_simp; try with_reducible rfl; done)); try simp only [Act.put, List.setIfInBounds_toArray, List.set_cons_zero, List.set_cons_succ])
  refine held_callA 10 (by rfl) (by kernel_rfl) (by rfl) (fun KQ hKQ => ?_)
  go_simp
  have hw2 := (Below.refl w1.heap.size w1).drew.alloc (Nat.le_refl _) (.cells #[.int .i64 0, .int .u32 0, .int .i64 0, .bool false, .bool false] 230)
  have hr := Blk.new w1.drew 230 #[.int .i64 0, .int .u32 0, .int .i64 0, .bool false, .bool false]
  have hd : (w1.alloc (.cells #[.int .i64 0, .int .u32 0, .int .i64 0, .bool false, .bool false] 230)).drew = w1.drew.alloc (.cells #[.int .i64 0, .int .u32 0, .int .i64 0, .bool false, .bool false] 230) := rfl
  rw [hd]
  generalize w1.drew.alloc (.cells #[.int .i64 0, .int .u32 0, .int .i64 0, .bool false, .bool false] 230) = w2 at *
  clear hd
  have hs5r := hw2
  refine hKQ.out _ _ hs5r ?_
  clear hKQ KQ
  try simp only [Act.put, List.setIfInBounds_toArray, List.set_cons_zero, List.set_cons_succ]
  refine held_callA 11 (by rfl) (by kernel_rfl) (by rfl) (fun KQ hKQ => ?_)
  refine wp_store_blk hr 230 (.tmp 5) (.tmp 37) (by rfl) (by rfl) (by rfl) (by rfl) (by exact hi5) (by simp [Value.oneCell']) ?_
  intro w3 hr3 hg3
  have hw3 := below_own hw2 hg3 hw2.size (Nat.le_refl _)
  have hs6r := hw3
  refine hKQ.out _ _ hs6r ?_
  clear hKQ KQ
  try simp only [Act.put]
  (refine held_takeA 12 (by rfl) ?_ (by kernel_rfl) (fun _ _ _ h => h) hs6r ?_ ?_; rotate_left; (focus (intro wq hSw; have hrd := hSw; have hrd2 : ∀ b o, b < w1.heap.size → wq.cell? ⟨b, o, none⟩ = w1.cell? ⟨b, o, none⟩ := (fun b o h => Below.cell hSw (p := ⟨b, o, none⟩) h); have hlk := (h1.2.below hSw ltb).miss1 int_key map_und mem_zero hk hm2; go_simp; try with_reducible rfl; done)); try simp only [Act.put, List.setIfInBounds_toArray, List.set_cons_zero, List.set_cons_succ])
  refine wpAnyH_done (by kernel_rfl) ?_ _
  try refine NoPanic.normal ?_
  clear hr hr3 hg3 hw2 p0 p1 p2 c1 ltp ltg ltb
  have h3 := h1.nx hw3
  have hB3 := hB.trans (hw3.mono hB.size)
  have hz3 := hB.size
  have ltp3 : w.heap.size < w1.heap.size := hp.lt
  have hp3 := hp.below hw3 ltp3
  have c1 : w3.cell? ⟨g, 1, none⟩ = some (.map (some b)) := h3.1.cellv 1 rfl
  have ltg := h3.ltg
  have ltb := h3.ltb
  have hlen := fun ty => h3.2.len map_und ty
  rw [List.length_map] at hlen
  have d4 : decide ((16 : Int) ≤ M.length) = true := by simp; omega
  go_wp2_with fail
  go_ret
  exact ⟨rfl, h3, grown_of_below hB3 (Nat.le_refl _) _⟩
set_option maxRecDepth 100000 in
set_option maxHeartbeats 2000000 in
theorem addNew (w : World) (g b : Nat) (pc : Int) (M : List Mem) (id ad wt : Int) (h : PoolIn w g b pc M) (hok : addOk id ad wt = true) (hnot : ∀ m ∈ M, m.id ≠ id) (hroom : M.length < 16) :
    Calls Tryz.prog 117 #[.pointer (some ⟨g, 0, none⟩), .agg #[.int .i64 id, .int .u32 ad, .int .i64 wt]] w fun e w' => e = .returned (.int .i64 0) ∧ PoolIn w' g b pc (M ++ [⟨id, ad, wt, false, false⟩]) ∧ w.grownBy w' (some b) := by
  have hi5 : (Tryz.prog.info? 230).map (·.size) = some 5 := by kernel_rfl
  have hB := (Below.refl w.heap.size w).alloc (Nat.le_refl _) (.cells #[.int .i64 id, .int .u32 ad, .int .i64 wt] 67)
  have hp := Blk.new w 67 #[.int .i64 id, .int .u32 ad, .int .i64 wt]
  have h1 := h.alloc (.cells #[.int .i64 id, .int .u32 ad, .int .i64 wt] 67)
  have hr1 : 0 ≤ id ∧ id ≤ 255 ∧ ad ≠ 0 ∧ wtB wt = true := by
    unfold addOk at hok; simp at hok; exact ⟨hok.1.1.1, hok.1.1.2, hok.1.2, hok.2⟩
  have hk := int_lit id (by omega) (by omega)
  go_enter Tryz.func117, Tryz.ntmps117
  go_upto_region 1 with (fail)
  generalize w.alloc (.cells #[.int .i64 id, .int .u32 ad, .int .i64 wt] 67) = w1 at *
  have p0 : w1.cell? ⟨w.heap.size, 0, none⟩ = some (.int .i64 id) := hp.cellv 0 rfl
  have p1 : w1.cell? ⟨w.heap.size, 1, none⟩ = some (.int .u32 ad) := hp.cellv 1 rfl
  have p2 : w1.cell? ⟨w.heap.size, 2, none⟩ = some (.int .i64 wt) := hp.cellv 2 rfl
  have c1 : w1.cell? ⟨g, 1, none⟩ = some (.map (some b)) := h1.1.cellv 1 rfl
  have ltp := hp.lt
  have ltg := h1.ltg
  have ltb := h1.ltb
  have d1 : decide (id < 0) = false := by simp; omega
  have d2 : decide (255 < id) = false := by simp; omega
  have d3 : (ad == 0) = false := by simpa using hr1.2.2.1
  go_upto_region 5 with (first
    | (go_at_call 126; refine (made_in h1).mono ?_; rintro e w' ⟨rfl, rfl⟩)
    | (go_at_call 127; refine (isWeight_any _ _).mono ?_; rintro e w' ⟨rfl, rfl⟩; rw [hr1.2.2.2]))
  have hm2 := no_id hnot
  -- region 5: 0 1 2 3 4 5 6 7 8 9 10M 11M 12
  try refine wp_region_noPanic ?_
  have hs7r : (fun w' => Below w1.heap.size w1 w') w1.drew := (Below.refl _ _).drew
  refine wp_region_held_drew (S := fun w' => Below w1.heap.size w1 w') (by kernel_rfl) hs7r (fun _ => ?_)
  (refine held_takeA 0 (by rfl) ?_ (by kernel_rfl) (fun _ _ _ h => h) hs7r ?_ ?_; rotate_left; (focus (intro wq hSw; have hrd := hSw; have hrd2 : ∀ b o, b < w1.heap.size → wq.cell? ⟨b, o, none⟩ = w1.cell? ⟨b, o, none⟩ := (fun b o h => Below.cell hSw (p := ⟨b, o, none⟩) h); have hlk := (h1.2.below hSw ltb).miss1 int_key map_und mem_zero hk hm2; go_simp; try with_reducible rfl; done)); try simp only [Act.put, List.setIfInBounds_toArray, List.set_cons_zero, List.set_cons_succ])
  (refine held_takeA 1 (by rfl) ?_ (by kernel_rfl) (fun _ _ _ h => h) hs7r ?_ ?_; rotate_left; (focus (intro wq hSw; have hrd := hSw; have hrd2 : ∀ b o, b < w1.heap.size → wq.cell? ⟨b, o, none⟩ = w1.cell? ⟨b, o, none⟩ := (fun b o h => Below.cell hSw (p := ⟨b, o, none⟩) h); have hlk := (h1.2.below hSw ltb).miss1 int_key map_und mem_zero hk hm2; go_simp; try with_reducible rfl; done)); try simp only [Act.put, List.setIfInBounds_toArray, List.set_cons_zero, List.set_cons_succ])
  (refine held_takeA 2 (by rfl) ?_ (by kernel_rfl) (fun _ _ _ h => h) hs7r ?_ ?_; rotate_left; (focus (intro wq hSw; have hrd := hSw; have hrd2 : ∀ b o, b < w1.heap.size → wq.cell? ⟨b, o, none⟩ = w1.cell? ⟨b, o, none⟩ := (fun b o h => Below.cell hSw (p := ⟨b, o, none⟩) h); have hlk := (h1.2.below hSw ltb).miss1 int_key map_und mem_zero hk hm2; go_simp; try with_reducible rfl; done)); try simp only [Act.put, List.setIfInBounds_toArray, List.set_cons_zero, List.set_cons_succ])
  (refine held_takeA 3 (by rfl) ?_ (by kernel_rfl) (fun _ _ _ h => h) hs7r ?_ ?_; rotate_left; (focus (intro wq hSw; have hrd := hSw; have hrd2 : ∀ b o, b < w1.heap.size → wq.cell? ⟨b, o, none⟩ = w1.cell? ⟨b, o, none⟩ := (fun b o h => Below.cell hSw (p := ⟨b, o, none⟩) h); have hlk := (h1.2.below hSw ltb).miss1 int_key map_und mem_zero hk hm2; go_simp; try with_reducible rfl; done)); try simp only [Act.put, List.setIfInBounds_toArray, List.set_cons_zero, List.set_cons_succ])
  (refine held_takeA 4 (by rfl) ?_ (by kernel_rfl) (fun _ _ _ h => h) hs7r ?_ ?_; rotate_left; (focus (intro wq hSw; have hrd := hSw; have hrd2 : ∀ b o, b < w1.heap.size → wq.cell? ⟨b, o, none⟩ = w1.cell? ⟨b, o, none⟩ := (fun b o h => Below.cell hSw (p := ⟨b, o, none⟩) h); have hlk := (h1.2.below hSw ltb).miss1 int_key map_und mem_zero hk hm2; go_simp; try with_reducible rfl; done)); try simp only [Act.put, List.setIfInBounds_toArray, List.set_cons_zero, List.set_cons_succ])
  (refine held_takeA 5 (by rfl) ?_ (by kernel_rfl) (fun _ _ _ h => h) hs7r ?_ ?_; rotate_left; (focus (intro wq hSw; have hrd := hSw; have hrd2 : ∀ b o, b < w1.heap.size → wq.cell? ⟨b, o, none⟩ = w1.cell? ⟨b, o, none⟩ := (fun b o h => Below.cell hSw (p := ⟨b, o, none⟩) h); have hlk := (h1.2.below hSw ltb).miss1 int_key map_und mem_zero hk hm2; go_simp; try with_reducible rfl; done)); try simp only [Act.put, List.setIfInBounds_toArray, List.set_cons_zero, List.set_cons_succ])
  (refine held_takeA 6 (by rfl) ?_ (by kernel_rfl) (fun _ _ _ h => h) hs7r ?_ ?_; rotate_left; (focus (intro wq hSw; have hrd := hSw; have hrd2 : ∀ b o, b < w1.heap.size → wq.cell? ⟨b, o, none⟩ = w1.cell? ⟨b, o, none⟩ := (fun b o h => Below.cell hSw (p := ⟨b, o, none⟩) h); have hlk := (h1.2.below hSw ltb).miss1 int_key map_und mem_zero hk hm2; go_simp; try with_reducible rfl; done)); try simp only [Act.put, List.setIfInBounds_toArray, List.set_cons_zero, List.set_cons_succ])
  (refine held_takeA 7 (by rfl) ?_ (by kernel_rfl) (fun _ _ _ h => h) hs7r ?_ ?_; rotate_left; (focus (intro wq hSw; have hrd := hSw; have hrd2 : ∀ b o, b < w1.heap.size → wq.cell? ⟨b, o, none⟩ = w1.cell? ⟨b, o, none⟩ := (fun b o h => Below.cell hSw (p := ⟨b, o, none⟩) h); have hlk := (h1.2.below hSw ltb).miss1 int_key map_und mem_zero hk hm2; go_simp; try with_reducible rfl; done)); try simp only [Act.put, List.setIfInBounds_toArray, List.set_cons_zero, List.set_cons_succ])
  (refine held_takeA 8 (by rfl) ?_ (by kernel_rfl) (fun _ _ _ h => h) hs7r ?_ ?_; rotate_left; (focus (intro wq hSw; have hrd := hSw; have hrd2 : ∀ b o, b < w1.heap.size → wq.cell? ⟨b, o, none⟩ = w1.cell? ⟨b, o, none⟩ := (fun b o h => Below.cell hSw (p := ⟨b, o, none⟩) h); have hlk := (h1.2.below hSw ltb).miss1 int_key map_und mem_zero hk hm2; go_simp; try with_reducible rfl; done)); try simp only [Act.put, List.setIfInBounds_toArray, List.set_cons_zero, List.set_cons_succ])
  (refine held_takeA 9 (by rfl) ?_ (by kernel_rfl) (fun _ _ _ h => h) hs7r ?_ ?_; rotate_left; (focus (intro wq hSw; have hrd := hSw; have hrd2 : ∀ b o, b < w1.heap.size → wq.cell? ⟨b, o, none⟩ = w1.cell? ⟨b, o, none⟩ := (fun b o h => Below.cell hSw (p := ⟨b, o, none⟩) h); have hlk := (h1.2.below hSw ltb).miss1 int_key map_und mem_zero hk hm2; go_simp; try with_reducible rfl; done)); try simp only [Act.put, List.setIfInBounds_toArray, List.set_cons_zero, List.set_cons_succ])
  refine held_callA 10 (by rfl) (by kernel_rfl) (by rfl) (fun KQ hKQ => ?_)
  go_simp
  have hw2 := (Below.refl w1.heap.size w1).drew.alloc (Nat.le_refl _) (.cells #[.int .i64 0, .int .u32 0, .int .i64 0, .bool false, .bool false] 230)
  have hr := Blk.new w1.drew 230 #[.int .i64 0, .int .u32 0, .int .i64 0, .bool false, .bool false]
  have hd : (w1.alloc (.cells #[.int .i64 0, .int .u32 0, .int .i64 0, .bool false, .bool false] 230)).drew = w1.drew.alloc (.cells #[.int .i64 0, .int .u32 0, .int .i64 0, .bool false, .bool false] 230) := rfl
  rw [hd]
  generalize w1.drew.alloc (.cells #[.int .i64 0, .int .u32 0, .int .i64 0, .bool false, .bool false] 230) = w2 at *
  clear hd
  have hs8r := hw2
  refine hKQ.out _ _ hs8r ?_
  clear hKQ KQ
  try simp only [Act.put, List.setIfInBounds_toArray, List.set_cons_zero, List.set_cons_succ]
  refine held_callA 11 (by rfl) (by kernel_rfl) (by rfl) (fun KQ hKQ => ?_)
  refine wp_store_blk hr 230 (.tmp 5) (.tmp 37) (by rfl) (by rfl) (by rfl) (by rfl) (by exact hi5) (by simp [Value.oneCell']) ?_
  intro w3 hr3 hg3
  have hw3 := below_own hw2 hg3 hw2.size (Nat.le_refl _)
  have hs9r := hw3
  refine hKQ.out _ _ hs9r ?_
  clear hKQ KQ
  try simp only [Act.put]
  (refine held_takeA 12 (by rfl) ?_ (by kernel_rfl) (fun _ _ _ h => h) hs9r ?_ ?_; rotate_left; (focus (intro wq hSw; have hrd := hSw; have hrd2 : ∀ b o, b < w1.heap.size → wq.cell? ⟨b, o, none⟩ = w1.cell? ⟨b, o, none⟩ := (fun b o h => Below.cell hSw (p := ⟨b, o, none⟩) h); have hlk := (h1.2.below hSw ltb).miss1 int_key map_und mem_zero hk hm2; go_simp; try with_reducible rfl; done)); try simp only [Act.put, List.setIfInBounds_toArray, List.set_cons_zero, List.set_cons_succ])
  refine wpAnyH_done (by kernel_rfl) ?_ _
  try refine NoPanic.normal ?_
  clear hr hr3 hg3 hw2 p0 p1 p2 c1 ltp ltg ltb
  have h3 := h1.nx hw3
  have hB3 := hB.trans (hw3.mono hB.size)
  have hz3 := hB.size
  have ltp3 : w.heap.size < w1.heap.size := hp.lt
  have hp3 := hp.below hw3 ltp3
  have c1 : w3.cell? ⟨g, 1, none⟩ = some (.map (some b)) := h3.1.cellv 1 rfl
  have ltg := h3.ltg
  have ltb := h3.ltb
  have hlen := fun ty => h3.2.len map_und ty
  rw [List.length_map] at hlen
  have d4 : decide ((16 : Int) ≤ M.length) = false := by simp; omega
  go_upto_region 10 with (fail)
  have p0 : w3.cell? ⟨w.heap.size, 0, none⟩ = some (.int .i64 id) := hp3.cellv 0 rfl
  have ltp := hp3.lt
  have hgb : g ≠ b := h.ne
  have ltb0 := h.ltb
  have hpb : w.heap.size ≠ b := by omega
  -- region 10: 0 1 2 3 4 5 6 7 8M
  try refine wp_region_noPanic ?_
  have hs10r : w3.grownBy w3.drew (some b) := grown_drew (grown_refl _ _)
  refine wp_region_held_drew (S := fun w' => w3.grownBy w' (some b)) (by kernel_rfl) hs10r (fun _ => ?_)
  (refine held_takeA 0 (by rfl) ?_ (by kernel_rfl) (fun _ _ _ h => h) hs10r ?_ ?_; rotate_left; (focus (intro wq hSw; have hrd : ∀ b' o, b' < w3.heap.size → b' ≠ b → wq.cell? ⟨b', o, none⟩ = w3.cell? ⟨b', o, none⟩ := (fun b' o h hne => grown_cell hSw h hne); go_simp; try with_reducible rfl; done)); try simp only [Act.put, List.setIfInBounds_toArray, List.set_cons_zero, List.set_cons_succ])
  (refine held_takeA 1 (by rfl) ?_ (by kernel_rfl) (fun _ _ _ h => h) hs10r ?_ ?_; rotate_left; (focus (intro wq hSw; have hrd : ∀ b' o, b' < w3.heap.size → b' ≠ b → wq.cell? ⟨b', o, none⟩ = w3.cell? ⟨b', o, none⟩ := (fun b' o h hne => grown_cell hSw h hne); go_simp; try with_reducible rfl; done)); try simp only [Act.put, List.setIfInBounds_toArray, List.set_cons_zero, List.set_cons_succ])
  (refine held_takeA 2 (by rfl) ?_ (by kernel_rfl) (fun _ _ _ h => h) hs10r ?_ ?_; rotate_left; (focus (intro wq hSw; have hrd : ∀ b' o, b' < w3.heap.size → b' ≠ b → wq.cell? ⟨b', o, none⟩ = w3.cell? ⟨b', o, none⟩ := (fun b' o h hne => grown_cell hSw h hne); go_simp; try with_reducible rfl; done)); try simp only [Act.put, List.setIfInBounds_toArray, List.set_cons_zero, List.set_cons_succ])
  (refine held_takeA 3 (by rfl) ?_ (by kernel_rfl) (fun _ _ _ h => h) hs10r ?_ ?_; rotate_left; (focus (intro wq hSw; have hrd : ∀ b' o, b' < w3.heap.size → b' ≠ b → wq.cell? ⟨b', o, none⟩ = w3.cell? ⟨b', o, none⟩ := (fun b' o h hne => grown_cell hSw h hne); go_simp; try with_reducible rfl; done)); try simp only [Act.put, List.setIfInBounds_toArray, List.set_cons_zero, List.set_cons_succ])
  (refine held_takeA 4 (by rfl) ?_ (by kernel_rfl) (fun _ _ _ h => h) hs10r ?_ ?_; rotate_left; (focus (intro wq hSw; have hrd : ∀ b' o, b' < w3.heap.size → b' ≠ b → wq.cell? ⟨b', o, none⟩ = w3.cell? ⟨b', o, none⟩ := (fun b' o h hne => grown_cell hSw h hne); go_simp; try with_reducible rfl; done)); try simp only [Act.put, List.setIfInBounds_toArray, List.set_cons_zero, List.set_cons_succ])
  (refine held_takeA 5 (by rfl) ?_ (by kernel_rfl) (fun _ _ _ h => h) hs10r ?_ ?_; rotate_left; (focus (intro wq hSw; have hrd : ∀ b' o, b' < w3.heap.size → b' ≠ b → wq.cell? ⟨b', o, none⟩ = w3.cell? ⟨b', o, none⟩ := (fun b' o h hne => grown_cell hSw h hne); go_simp; try with_reducible rfl; done)); try simp only [Act.put, List.setIfInBounds_toArray, List.set_cons_zero, List.set_cons_succ])
  (refine held_takeA 6 (by rfl) ?_ (by kernel_rfl) (fun _ _ _ h => h) hs10r ?_ ?_; rotate_left; (focus (intro wq hSw; refine exec_load_blk (x := .tmp 3) ?_ ?_ (hp3.grown hSw (by simp; omega)) _ Tryz.underlying67 rfl (by kernel_rfl) <;> rfl)); simp only [Act.put, List.setIfInBounds_toArray, List.set_cons_zero, List.set_cons_succ])
  (refine held_takeA 7 (by rfl) ?_ (by kernel_rfl) (fun _ _ _ h => h) hs10r ?_ ?_; rotate_left; (focus (intro wq hSw; have hrd : ∀ b' o, b' < w3.heap.size → b' ≠ b → wq.cell? ⟨b', o, none⟩ = w3.cell? ⟨b', o, none⟩ := (fun b' o h hne => grown_cell hSw h hne); go_simp; try with_reducible rfl; done)); try simp only [Act.put, List.setIfInBounds_toArray, List.set_cons_zero, List.set_cons_succ])
  refine held_callA 8 (by rfl) (by kernel_rfl) (by rfl) (fun KQ hKQ => ?_)
  refine wp_put_new (key := .int .i64 id) (val := .agg (memC ⟨id, ad, wt, false, false⟩)) h3.2.drew int_key map_und (.tmp 49) (.tmp 51) (.tmp 53) (by rfl) (by rfl) (by rfl) (by rfl) hk hm2 ?_
  intro w4 he4 hg4
  refine hKQ.out _ _ (grown_trans hs10r hg4) (held_mono (S' := fun w' => w4.grownBy w' (some b)) (fun w' h => grown_trans (grown_trans hs10r hg4) h) _ _ _ _ ?_)
  clear hKQ KQ
  replace hp3 := hp3.grown (grown_trans hs10r hg4) (by simp; omega)
  have hs11r : w4.grownBy w4 (some b) := grown_refl _ _
  try simp only [Act.put]
  refine wpAnyH_done (by kernel_rfl) ?_ _
  try refine NoPanic.normal ?_
  go_wp2_with fail
  go_ret
  have hg5 : w3.grownBy w4 (some b) := grown_trans (grown_drew (grown_refl w3 (some b))) hg4
  refine ⟨rfl, ⟨h3.1.grown hg5 (by simp; omega), ?_⟩, grown_trans (grown_of_below hB3 (Nat.le_refl _) _) hg5⟩
  rw [List.map_append]
  exact he4
end Go.Proofs.YtecmhakapomepaaGreat

/- pool: Mark, Drain, Weigh. -/
namespace Go.Proofs.YtecmhakapomepaaGreat
set_option linter.unusedVariables false
open Go Go.RowKit Go.Maps

end Go.Proofs.YtecmhakapomepaaGreat

/- pool: sums of weights; Quorate. -/
namespace Go.Proofs.YtecmhakapomepaaGreat
set_option linter.unusedVariables false
open Go Go.RowKit Go.Maps Go.MapKept

/-- how many entries an iterator has left. -/
def iterLeft (w : World) (b r : Nat) : Nat := match w.heap[b]?, w.heap[r]? with
  | some (.map es _), some (.mapIter _ _ seen _) => (leftOf es seen).size
  | _, _ => 0
/-- the weights of those that are so. -/
def sumW (so : Mem → Bool) : List Mem → Int
  | [] => 0
  | m :: D => (if so m then m.wt else 0) + sumW so D
/-- what every pool's members are. -/
def MemsOk (M : List Mem) : Prop := M.length ≤ 16 ∧ ∀ m ∈ M, (0 ≤ m.id ∧ m.id ≤ 255) ∧ (0 ≤ m.wt ∧ m.wt ≤ 100)
def soAll (_ : Mem) : Bool := true
def soUp (m : Mem) : Bool := m.up && !m.dr
def soUse (m : Mem) : Bool := soUp m && decide (0 < m.wt)
end Go.Proofs.YtecmhakapomepaaGreat

/- pool: Total, Healthy, Quorate; the document's example. -/
namespace Go.Proofs.YtecmhakapomepaaGreat
set_option linter.unusedVariables false
open Go Go.RowKit Go.Maps

end Go.Proofs.YtecmhakapomepaaGreat

/- pool: the document's pool as it lies in memory; its look-ups and sums. -/
namespace Go.Proofs.YtecmhakapomepaaGreat
set_option linter.unusedVariables false
open Go Go.RowKit Go.Maps

/-- members as elements of rows. -/
def memK : RK Mem where
  size := 5
  cel m := [.int .i64 m.id, .int .u32 m.ad, .int .i64 m.wt, .bool m.up, .bool m.dr]
  ok _ _ _ := True
  pos := by omega
  len _ := rfl
  one _ u hu := by simp at hu; rcases hu with rfl | rfl | rfl | rfl | rfl <;> rfl
  keep _ _ := trivial
  more _ _ := trivial
theorem memRow_ok : ElemOk Tryz.prog 218 223 memK.size 32 (.agg #[.int .i64 0, .int .u32 0, .int .i64 0, .bool false, .bool false]) := ⟨Tryz.underlying218, by kernel_rfl, rfl, memK.pos⟩
theorem mem_cells {w : World} {S : Nat → Prop} {A : Option Addr} {n : Nat} {L : List Mem} {k : Nat} (h : Seen memK w S A n L) (hk : k < n) :
    ∃ b off m, A = some ⟨b, off, none⟩ ∧ S b ∧ L[k]? = some m ∧ w.cell? ⟨b, off + k * 5, none⟩ = some (.int .i64 m.id) ∧ w.cell? ⟨b, off + k * 5 + 1, none⟩ = some (.int .u32 m.ad) ∧ w.cell? ⟨b, off + k * 5 + 2, none⟩ = some (.int .i64 m.wt) ∧
      w.cell? ⟨b, off + k * 5 + 3, none⟩ = some (.bool m.up) ∧ w.cell? ⟨b, off + k * 5 + 4, none⟩ = some (.bool m.dr) := by
  have hlt : k < L.length := by rw [h.1]; exact hk
  have hr := List.getElem?_eq_getElem hlt
  obtain ⟨b, off, e, hb, hc⟩ := h.cell hr
  exact ⟨b, off, _, e, hb, hr, hc 0 (by decide), hc 1 (by decide), hc 2 (by decide), hc 3 (by decide), hc 4 (by decide)⟩
/-- block g is the document's pool of these rows, that lie in blocks of which X is so. -/
def RefIn (w : World) (X : Nat → Prop) (g : Nat) (pc : Int) (L : List Mem) : Prop :=
  ∃ A n c, n ≤ c ∧ c ≤ maxLen ∧ Blk w g 220 #[.int .i64 pc, .slice A n c] ∧ Seen memK w (fun b => X b ∧ b < w.heap.size) A n L
section
variable {w w' : World} {X : Nat → Prop} {g : Nat} {pc : Int} {L : List Mem}
theorem RefIn.lt (h : RefIn w X g pc L) : g < w.heap.size := by obtain ⟨A, n, c, _, _, h1, _⟩ := h; exact h1.lt
theorem RefIn.nx (h : RefIn w X g pc L) (hb : Below w.heap.size w w') : RefIn w' X g pc L := by
  obtain ⟨A, n, c, k1, k2, h1, h2⟩ := h
  exact ⟨A, n, c, k1, k2, h1.below hb h1.lt, (h2.below hb fun b q => q.2).more fun b q => ⟨q.1, Nat.lt_of_lt_of_le q.2 hb.size⟩⟩
theorem RefIn.grown {k : Nat} (h : RefIn w X g pc L) (hg : w.grownBy w' (some k)) (h1 : g ≠ k) (h2 : ∀ b, X b → b ≠ k) : RefIn w' X g pc L := by
  obtain ⟨A, n, c, k1, k2, q1, q2⟩ := h
  exact ⟨A, n, c, k1, k2, q1.grown hg (fun e => h1 (by injection e)), (q2.grown hg fun b q => ⟨q.2, fun e => h2 b q.1 (by injection e with e; exact e.symm)⟩).more fun b q => ⟨q.1, Nat.lt_of_lt_of_le q.2 hg.size⟩⟩
end
/-- the place of an id from k on. -/
def findF : List Mem → Int → Option Nat
  | [], _ => none
  | m :: L, id => if m.id = id then some 0 else (findF L id).map (· + 1)
theorem findF_some {L : List Mem} {id : Int} {k : Nat} {m : Mem} (hk : L[k]? = some m) (he : m.id = id) (hn : ∀ j m', j < k → L[j]? = some m' → m'.id ≠ id) : findF L id = some k := by
  induction L generalizing k with
  | nil => simp at hk
  | cons a L ih =>
    cases k with
    | zero =>
      simp at hk; subst hk
      unfold findF; rw [if_pos he]
    | succ k =>
      have h0 := hn 0 a (by omega) rfl
      unfold findF
      rw [if_neg h0, ih (by simpa using hk) fun j m' hj hm => hn (j + 1) m' (by omega) (by simpa using hm)]
      rfl
theorem findF_none {L : List Mem} {id : Int} (hn : ∀ m ∈ L, m.id ≠ id) : findF L id = none := by
  induction L with
  | nil => rfl
  | cons a L ih =>
    unfold findF
    rw [if_neg (hn a List.mem_cons_self), ih fun m hm => hn m (List.mem_cons_of_mem _ hm)]
    rfl
def findZ (L : List Mem) (id : Int) : Int := match findF L id with
  | some k => (k : Int)
  | none => -1
set_option maxRecDepth 100000 in
set_option maxHeartbeats 2000000 in
theorem refFind25 (w : World) (X : Nat → Prop) (g : Nat) (pc : Int) (L : List Mem) (id : Int) (h : RefIn w X g pc L) (hn : L.length ≤ 100000) :
    Calls Tryz.prog 123 #[.pointer (some ⟨g, 0, none⟩), .int .i64 id] w fun e w' => e = .returned (.int .i64 (findZ L id)) ∧ Below w.heap.size w w' := by
  obtain ⟨A, n, c, hnc, hcm, hq, hS⟩ := h
  have hl := Lib.hid hS.1
  replace hn : n ≤ 100000 := by have := hS.1; omega
  have c1 : w.cell? ⟨g, 1, none⟩ = some (.slice A n c) := hq.cellv 1 rfl
  have ltg := hq.lt
  go_enter Tryz.func123, Tryz.ntmps123
  go_wp2_with fail
  go_loopw [5, 6, 12] (fun _ _ i wr => ∃ k : Nat, k ≤ n ∧ i = .int .i64 (k : Int) ∧ (∀ j m', j < k → L[j]? = some m' → m'.id ≠ id) ∧ Below w.heap.size w wr) (fun _ _ i _ => n - (intOf i).toNat)
  case atStart => exact ⟨0, Nat.zero_le _, rfl, fun j m' hj => absurd hj (by omega), Below.refl _ _⟩
  case round =>
  obtain ⟨k, hk, rfl, hno, hB⟩ := hrel
  have hz := hB.size
  replace hno := Lib.hid hno
  by_cases hlt : k < n
  · obtain ⟨b, off, m, rfl, hb, hr, q0, q1, q2, q3, q4⟩ := mem_cells (hS.below hB fun _ q => q.2) hlt
    have hb2 : b < wr.heap.size := Nat.lt_of_lt_of_le hb.2 hz
    have hki : (k : Int) < n := by omega
    have hB2 := hB.alloc hz (.cells #[.int .i64 m.id, .int .u32 m.ad, .int .i64 m.wt, .bool m.up, .bool m.dr] 223)
    have hq := Blk.new wr 223 #[.int .i64 m.id, .int .u32 m.ad, .int .i64 m.wt, .bool m.up, .bool m.dr]
    go_upto_region 4 with (fail)
    generalize wr.alloc (.cells #[.int .i64 m.id, .int .u32 m.ad, .int .i64 m.wt, .bool m.up, .bool m.dr] 223) = w2 at *
    have r0 : w2.cell? ⟨wr.heap.size, 0, none⟩ = some (.int .i64 m.id) := hq.cellv 0 rfl
    by_cases he : m.id = id
    · have hf := findF_some hr he hno.out
      have hz2 : findZ L id = (k : Int) := by unfold findZ; rw [hf]
      have d1 : (m.id == id) = true := by simpa using he
      replace he := Lib.hid he
      replace hz2 := Lib.hid hz2
      go_wp2_with fail
      go_ret
      exact ⟨by rw [hz2.out]; rfl, hB2⟩
    · have d1 : (m.id == id) = false := by simpa using he
      have hno2 : ∀ j m', j < k + 1 → L[j]? = some m' → m'.id ≠ id := by
        intro j m' hj hm
        by_cases hjk : j < k
        · exact hno.out j m' hjk hm
        · obtain rfl : j = k := by omega
          rw [hr] at hm; injection hm with hm; subst hm
          exact he
      replace he := Lib.hid he
      replace hno2 := Lib.hid hno2
      go_wp2_with fail
      exact ⟨⟨k + 1, by omega, by go_num, hno2.out, hB2⟩, by simp [intOf]; omega⟩
  · obtain rfl : k = n := by omega
    have hf : findZ L id = -1 := by
      unfold findZ
      rw [findF_none fun m hm => by
        obtain ⟨j, hj, e⟩ := List.getElem_of_mem hm
        exact hno.out j m (by have := hl.out; omega) (by rw [List.getElem?_eq_getElem hj, e])]
    replace hf := Lib.hid hf
    go_wp2_with fail
    go_ret
    exact ⟨by rw [hf.out]; rfl, hB⟩
end Go.Proofs.YtecmhakapomepaaGreat

/- pool: the document's example; PoolQuorum. -/
namespace Go.Proofs.YtecmhakapomepaaGreat
set_option linter.unusedVariables false
open Go Go.RowKit Go.Maps

end Go.Proofs.YtecmhakapomepaaGreat

/- pool: Get, Up, Draining; a pool that no call made. -/
namespace Go.Proofs.YtecmhakapomepaaGreat
set_option linter.unusedVariables false
open Go Go.RowKit Go.Maps

end Go.Proofs.YtecmhakapomepaaGreat

/- policy: the document's Good (a namespace of its own). -/
namespace Go.Proofs.YtecmhakapomepaaGreat.pl
set_option linter.unusedVariables false
open Go Go.RowKit

theorem refHop_any (h : Int) (w : World) (h0 : 0 ≤ h) (h1 : h ≤ 4294967295) : Calls Tryz.prog 107 #[.int .u32 h] w fun e w' => e = .returned (.bool (hopV h)) ∧ w = w' := by
  go_enter Tryz.func107, Tryz.ntmps107
  go_wp2_with fail
  all_goals go_ret
  all_goals (refine ⟨ret_bool ?_, rfl⟩; simp_all [hopV])
set_option maxRecDepth 100000 in
set_option maxHeartbeats 8000000 in
theorem refGood17_any (s h m p b : Int) (w : World) (h0 : 0 ≤ h) (h1 : h ≤ 4294967295) : Calls Tryz.prog 105 #[.agg #[.int .i64 s, .int .u32 h, .int .i64 m, .int .i64 p, .int .i64 b]] w fun e w' => e = .returned (.bool (goodV s h m p b)) ∧ Below w.heap.size w w' := by
  have hB := (Below.refl w.heap.size w).alloc (Nat.le_refl _) (.cells #[.int .i64 s, .int .u32 h, .int .i64 m, .int .i64 p, .int .i64 b] 162)
  have hq := Blk.new w 162 #[.int .i64 s, .int .u32 h, .int .i64 m, .int .i64 p, .int .i64 b]
  go_enter Tryz.func105, Tryz.ntmps105
  go_upto_region 1 with (fail)
  generalize w.alloc (.cells #[.int .i64 s, .int .u32 h, .int .i64 m, .int .i64 p, .int .i64 b] 162) = w1 at *
  have lt0 := hq.lt
  have q0 : w1.cell? ⟨w.heap.size, 0, none⟩ = some (.int .i64 s) := hq.cellv 0 rfl
  have q1 : w1.cell? ⟨w.heap.size, 1, none⟩ = some (.int .u32 h) := hq.cellv 1 rfl
  have q2 : w1.cell? ⟨w.heap.size, 2, none⟩ = some (.int .i64 m) := hq.cellv 2 rfl
  have q3 : w1.cell? ⟨w.heap.size, 3, none⟩ = some (.int .i64 p) := hq.cellv 3 rfl
  have q4 : w1.cell? ⟨w.heap.size, 4, none⟩ = some (.int .i64 b) := hq.cellv 4 rfl
  cases eh : hopV h
  · skip
    by_cases e_0 : 0 ≤ m
    rotate_left
    · have k9 : m < 0 := by omega
      have ev : goodV s h m p b = false := by unfold goodV; simp [inV, *] <;> omega
      replace ev := Lib.hid ev
      go_wp2_with (go_at_call 107; refine (refHop_any _ _ h0 h1).mono ?_; rintro e w' ⟨rfl, rfl⟩; rw [eh])
      go_ret
      exact ⟨ret_bool (by first | exact ev.out.symm | (rw [ev.out]; simp; omega)), hB⟩
    by_cases e_1 : m ≤ 4294967295
    rotate_left
    · have k9 : 4294967295 < m := by omega
      have ev : goodV s h m p b = false := by unfold goodV; simp [inV, *] <;> omega
      replace ev := Lib.hid ev
      go_wp2_with (go_at_call 107; refine (refHop_any _ _ h0 h1).mono ?_; rintro e w' ⟨rfl, rfl⟩; rw [eh])
      go_ret
      exact ⟨ret_bool (by first | exact ev.out.symm | (rw [ev.out]; simp; omega)), hB⟩
    by_cases e_2 : 0 ≤ b
    rotate_left
    · have k9 : b < 0 := by omega
      have ev : goodV s h m p b = false := by unfold goodV; simp [inV, *] <;> omega
      replace ev := Lib.hid ev
      go_wp2_with (go_at_call 107; refine (refHop_any _ _ h0 h1).mono ?_; rintro e w' ⟨rfl, rfl⟩; rw [eh])
      go_ret
      exact ⟨ret_bool (by first | exact ev.out.symm | (rw [ev.out]; simp; omega)), hB⟩
    by_cases e_3 : b ≤ 4294967295
    rotate_left
    · have k9 : 4294967295 < b := by omega
      have ev : goodV s h m p b = false := by unfold goodV; simp [inV, *] <;> omega
      replace ev := Lib.hid ev
      go_wp2_with (go_at_call 107; refine (refHop_any _ _ h0 h1).mono ?_; rintro e w' ⟨rfl, rfl⟩; rw [eh])
      go_ret
      exact ⟨ret_bool (by first | exact ev.out.symm | (rw [ev.out]; simp; omega)), hB⟩
    by_cases e_4 : 1 ≤ s
    rotate_left
    · have k9 : s < 1 := by omega
      have ev : goodV s h m p b = false := by unfold goodV; simp [inV, *] <;> omega
      replace ev := Lib.hid ev
      go_wp2_with (go_at_call 107; refine (refHop_any _ _ h0 h1).mono ?_; rintro e w' ⟨rfl, rfl⟩; rw [eh])
      go_ret
      exact ⟨ret_bool (by first | exact ev.out.symm | (rw [ev.out]; simp; omega)), hB⟩
    by_cases e_5 : s ≤ 65535
    rotate_left
    · have k9 : 65535 < s := by omega
      have ev : goodV s h m p b = false := by unfold goodV; simp [inV, *] <;> omega
      replace ev := Lib.hid ev
      go_wp2_with (go_at_call 107; refine (refHop_any _ _ h0 h1).mono ?_; rintro e w' ⟨rfl, rfl⟩; rw [eh])
      go_ret
      exact ⟨ret_bool (by first | exact ev.out.symm | (rw [ev.out]; simp; omega)), hB⟩
    have ev : goodV s h m p b = false := by unfold goodV; simp [inV, *] <;> omega
    replace ev := Lib.hid ev
    go_wp2_with (go_at_call 107; refine (refHop_any _ _ h0 h1).mono ?_; rintro e w' ⟨rfl, rfl⟩; rw [eh])
    go_ret
    exact ⟨ret_bool (by first | exact ev.out.symm | (rw [ev.out]; simp; omega)), hB⟩
  · skip
    by_cases e_0 : 0 ≤ m
    rotate_left
    · have k9 : m < 0 := by omega
      have ev : goodV s h m p b = false := by unfold goodV; simp [inV, *] <;> omega
      replace ev := Lib.hid ev
      go_wp2_with (go_at_call 107; refine (refHop_any _ _ h0 h1).mono ?_; rintro e w' ⟨rfl, rfl⟩; rw [eh])
      go_ret
      exact ⟨ret_bool (by first | exact ev.out.symm | (rw [ev.out]; simp; omega)), hB⟩
    by_cases e_1 : m ≤ 4294967295
    rotate_left
    · have k9 : 4294967295 < m := by omega
      have ev : goodV s h m p b = false := by unfold goodV; simp [inV, *] <;> omega
      replace ev := Lib.hid ev
      go_wp2_with (go_at_call 107; refine (refHop_any _ _ h0 h1).mono ?_; rintro e w' ⟨rfl, rfl⟩; rw [eh])
      go_ret
      exact ⟨ret_bool (by first | exact ev.out.symm | (rw [ev.out]; simp; omega)), hB⟩
    by_cases e_2 : 0 ≤ b
    rotate_left
    · have k9 : b < 0 := by omega
      have ev : goodV s h m p b = false := by unfold goodV; simp [inV, *] <;> omega
      replace ev := Lib.hid ev
      go_wp2_with (go_at_call 107; refine (refHop_any _ _ h0 h1).mono ?_; rintro e w' ⟨rfl, rfl⟩; rw [eh])
      go_ret
      exact ⟨ret_bool (by first | exact ev.out.symm | (rw [ev.out]; simp; omega)), hB⟩
    by_cases e_3 : b ≤ 4294967295
    rotate_left
    · have k9 : 4294967295 < b := by omega
      have ev : goodV s h m p b = false := by unfold goodV; simp [inV, *] <;> omega
      replace ev := Lib.hid ev
      go_wp2_with (go_at_call 107; refine (refHop_any _ _ h0 h1).mono ?_; rintro e w' ⟨rfl, rfl⟩; rw [eh])
      go_ret
      exact ⟨ret_bool (by first | exact ev.out.symm | (rw [ev.out]; simp; omega)), hB⟩
    by_cases e_4 : 1 ≤ s
    rotate_left
    · have k9 : s < 1 := by omega
      have ev : goodV s h m p b = false := by unfold goodV; simp [inV, *] <;> omega
      replace ev := Lib.hid ev
      go_wp2_with (go_at_call 107; refine (refHop_any _ _ h0 h1).mono ?_; rintro e w' ⟨rfl, rfl⟩; rw [eh])
      go_ret
      exact ⟨ret_bool (by first | exact ev.out.symm | (rw [ev.out]; simp; omega)), hB⟩
    by_cases e_5 : s ≤ 65535
    rotate_left
    · have k9 : 65535 < s := by omega
      have ev : goodV s h m p b = false := by unfold goodV; simp [inV, *] <;> omega
      replace ev := Lib.hid ev
      go_wp2_with (go_at_call 107; refine (refHop_any _ _ h0 h1).mono ?_; rintro e w' ⟨rfl, rfl⟩; rw [eh])
      go_ret
      exact ⟨ret_bool (by first | exact ev.out.symm | (rw [ev.out]; simp; omega)), hB⟩
    by_cases e_7 : 0 ≤ p
    rotate_left
    · have k9 : p < 0 := by omega
      have ev : goodV s h m p b = false := by unfold goodV; simp [inV, *] <;> omega
      replace ev := Lib.hid ev
      go_wp2_with (go_at_call 107; refine (refHop_any _ _ h0 h1).mono ?_; rintro e w' ⟨rfl, rfl⟩; rw [eh])
      go_ret
      exact ⟨ret_bool (by first | exact ev.out.symm | (rw [ev.out]; simp; omega)), hB⟩
    by_cases e_8 : p ≤ 15
    rotate_left
    · have k9 : 15 < p := by omega
      have ev : goodV s h m p b = false := by unfold goodV; simp [inV, *] <;> omega
      replace ev := Lib.hid ev
      go_wp2_with (go_at_call 107; refine (refHop_any _ _ h0 h1).mono ?_; rintro e w' ⟨rfl, rfl⟩; rw [eh])
      go_ret
      exact ⟨ret_bool (by first | exact ev.out.symm | (rw [ev.out]; simp; omega)), hB⟩
    have ev : goodV s h m p b = true := by unfold goodV; simp [inV, *] <;> omega
    replace ev := Lib.hid ev
    go_wp2_with (go_at_call 107; refine (refHop_any _ _ h0 h1).mono ?_; rintro e w' ⟨rfl, rfl⟩; rw [eh])
    go_ret
    exact ⟨ret_bool (by first | exact ev.out.symm | (rw [ev.out]; simp; omega)), hB⟩
end Go.Proofs.YtecmhakapomepaaGreat.pl
