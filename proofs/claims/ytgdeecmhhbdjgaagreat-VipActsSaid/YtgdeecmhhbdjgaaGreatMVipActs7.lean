import Derived.Test.YtgdeecmhhbdjgaaGreatMVipActs6
import Derived.Deep.Cut
import Derived.WalkSpells
import Derived.Test.YtgdeecmhhbdjgaaGreatMVipActs2
import Derived.BigGuardPart
/- pool: made, New, Add. -/
namespace Go.Proofs.YtgdeecmhhbdjgaaGreat
set_option linter.unusedVariables false
open Go Go.RowKit Go.Maps

theorem map_und : Tryz.prog.underlying 228 = some (.map 3 216) := Tryz.underlying228
@[go_sem] theorem neq_pmap (m : Option Nat) (w : World) : (binOp .neq 228 (.map m) (.map none)).run Tryz.prog w = .ok (.bool (!m.isNone)) w := Go.run_neq_map_nil w _ _ _ m map_und
@[go_sem] theorem make_pmap (w : World) : (Instr.makeMap 228 none).run Tryz.prog w = .ok (.map (some w.heap.size)) (w.alloc (.map #[] 0)) := rfl
set_option maxRecDepth 100000 in
theorem made_in {w : World} {g b : Nat} {pc : Int} {M : List Mem} (h : PoolIn w g b pc M) :
    Calls Tryz.prog 182 #[.pointer (some ⟨g, 0, none⟩)] w fun e w' => e = .returned (.bool true) ∧ w = w' := by
  have c1 : w.cell? ⟨g, 1, none⟩ = some (.map (some b)) := h.1.cellv 1 rfl
  go_enter Tryz.func182, Tryz.ntmps182
  go_wp2_with fail
  go_ret
  exact ⟨rfl, rfl⟩
def wtB (n : Int) : Bool := decide (0 ≤ n) && decide (n ≤ 100)
theorem isWeight_any (n : Int) (w : World) : Calls Tryz.prog 181 #[.int .i64 n] w fun e w' => e = .returned (.bool (wtB n)) ∧ w = w' := by
  go_enter Tryz.func181, Tryz.ntmps181
  go_wp2_with fail
  all_goals go_ret
  all_goals (refine ⟨ret_bool ?_, rfl⟩; simp_all [wtB] <;> omega)
theorem new_in (w : World) (pc : Int) (h1 : 1 ≤ pc) (h2 : pc ≤ 100) :
    Calls Tryz.prog 106 #[.int .i64 pc] w fun e w' => ∃ g b, e = .returned (.pointer (some ⟨g, 0, none⟩)) ∧ PoolIn w' g b pc [] ∧ w.heap.size ≤ g ∧ w.heap.size ≤ b ∧ Below w.heap.size w w' := by
  have d1 : decide (pc < 1) = false := by simp; omega
  have d2 : decide (100 < pc) = false := by simp; omega
  go_enter Tryz.func106, Tryz.ntmps106
  go_wp2_with fail
  go_ret
  refine ⟨_, _, rfl, ⟨by have := Blk.new (w.alloc (.map #[] 0)) 230 #[.int .i64 pc, .map (some w.heap.size)]; simpa using this, (Ent.made w).alloc _⟩, by simp, Nat.le_refl _, ((Below.refl _ _).alloc (Nat.le_refl _) _).alloc (by simp) _⟩
theorem new_no (w : World) (pc : Int) (h : pc < 1 ∨ 100 < pc) :
    Calls Tryz.prog 106 #[.int .i64 pc] w fun e w' => e = .returned (.pointer none) ∧ w = w' := by
  go_enter Tryz.func106, Tryz.ntmps106
  by_cases d : pc < 1
  · have d1 : decide (pc < 1) = true := by simpa using d
    go_wp2_with fail
    go_ret
    exact ⟨rfl, rfl⟩
  have d1 : decide (pc < 1) = false := by simpa using d
  have d2 : decide (100 < pc) = true := by simp; omega
  go_wp2_with fail
  go_ret
  exact ⟨rfl, rfl⟩
def addOk (id ad wt : Int) : Bool := (decide (0 ≤ id) && decide (id ≤ 255)) && (ad != 0) && wtB wt
theorem no_id {M : List Mem} {id : Int} (h : ∀ m ∈ M, m.id ≠ id) : (Value.int .i64 id) ∉ (M.map memE).map Prod.fst := by
  rw [List.map_map]
  intro hm
  obtain ⟨m, h1, h2⟩ := List.mem_map.1 hm
  simp only [Function.comp, memE, Value.int.injEq] at h2
  exact h m h1 h2.2
theorem is_id {M : List Mem} {m : Mem} (h : m ∈ M) : (Value.int .i64 m.id, Value.agg (memC m)) ∈ M.map memE := List.mem_map.2 ⟨m, h, rfl⟩
theorem mem_zero (w : World) : (zeroValue 216).run Tryz.prog w = .ok (.agg #[.int .i64 0, .int .u32 0, .int .i64 0, .bool false, .bool false]) w := by kernel_rfl
theorem addNo_any (w : World) (g b : Nat) (pc : Int) (M : List Mem) (id ad wt : Int) (h : PoolIn w g b pc M) (hno : addOk id ad wt = false) :
    Calls Tryz.prog 108 #[.pointer (some ⟨g, 0, none⟩), .agg #[.int .i64 id, .int .u32 ad, .int .i64 wt]] w fun e w' => e = .returned (.int .i64 2) ∧ Below w.heap.size w w' := by
  have hB := (Below.refl w.heap.size w).alloc (Nat.le_refl _) (.cells #[.int .i64 id, .int .u32 ad, .int .i64 wt] 120)
  have hp := Blk.new w 120 #[.int .i64 id, .int .u32 ad, .int .i64 wt]
  have h1 := h.alloc (.cells #[.int .i64 id, .int .u32 ad, .int .i64 wt] 120)
  go_enter Tryz.func108, Tryz.ntmps108
  go_upto_region 1 with (fail)
  generalize w.alloc (.cells #[.int .i64 id, .int .u32 ad, .int .i64 wt] 120) = w1 at *
  have p0 : w1.cell? ⟨w.heap.size, 0, none⟩ = some (.int .i64 id) := hp.cellv 0 rfl
  have p1 : w1.cell? ⟨w.heap.size, 1, none⟩ = some (.int .u32 ad) := hp.cellv 1 rfl
  have p2 : w1.cell? ⟨w.heap.size, 2, none⟩ = some (.int .i64 wt) := hp.cellv 2 rfl
  go_wp2_with (first
    | (go_at_call 182; refine (made_in h1).mono ?_; rintro e w' ⟨rfl, rfl⟩)
    | (go_at_call 181; refine (isWeight_any _ _).mono ?_; rintro e w' ⟨rfl, rfl⟩; generalize hwt : wtB wt = wtb at *; cases wtb))
  all_goals first
    | (go_ret; exact ⟨rfl, hB⟩)
    | (exfalso; rw [addOk, hwt] at hno; simp at hno; omega)
set_option maxRecDepth 100000 in
set_option maxHeartbeats 2000000 in
theorem addThere (w : World) (g b : Nat) (pc : Int) (M : List Mem) (m : Mem) (ad wt : Int) (h : PoolIn w g b pc M) (hok : addOk m.id ad wt = true) (hm : m ∈ M) :
    Calls Tryz.prog 108 #[.pointer (some ⟨g, 0, none⟩), .agg #[.int .i64 m.id, .int .u32 ad, .int .i64 wt]] w fun e w' => e = .returned (.int .i64 13) ∧ PoolIn w' g b pc (M) ∧ w.grownBy w' (some b) := by
  have hi5 : (Tryz.prog.info? 216).map (·.size) = some 5 := by kernel_rfl
  have hB := (Below.refl w.heap.size w).alloc (Nat.le_refl _) (.cells #[.int .i64 m.id, .int .u32 ad, .int .i64 wt] 120)
  have hp := Blk.new w 120 #[.int .i64 m.id, .int .u32 ad, .int .i64 wt]
  have h1 := h.alloc (.cells #[.int .i64 m.id, .int .u32 ad, .int .i64 wt] 120)
  have hr1 : 0 ≤ m.id ∧ m.id ≤ 255 ∧ ad ≠ 0 ∧ wtB wt = true := by
    unfold addOk at hok; simp at hok; exact ⟨hok.1.1.1, hok.1.1.2, hok.1.2, hok.2⟩
  have hk := int_lit m.id (by omega) (by omega)
  go_enter Tryz.func108, Tryz.ntmps108
  go_upto_region 1 with (fail)
  generalize w.alloc (.cells #[.int .i64 m.id, .int .u32 ad, .int .i64 wt] 120) = w1 at *
  have p0 : w1.cell? ⟨w.heap.size, 0, none⟩ = some (.int .i64 m.id) := hp.cellv 0 rfl
  have p1 : w1.cell? ⟨w.heap.size, 1, none⟩ = some (.int .u32 ad) := hp.cellv 1 rfl
  have p2 : w1.cell? ⟨w.heap.size, 2, none⟩ = some (.int .i64 wt) := hp.cellv 2 rfl
  have c1 : w1.cell? ⟨g, 1, none⟩ = some (.map (some b)) := h1.1.cellv 1 rfl
  have ltp := hp.lt
  have ltg := h1.ltg
  have ltb := h1.ltb
  have d1 : decide (m.id < 0) = false := by simp; omega
  have d2 : decide (255 < m.id) = false := by simp; omega
  have d3 : (ad == 0) = false := by simpa using hr1.2.2.1
  go_upto_region 5 with (first
    | (go_at_call 182; refine (made_in h1).mono ?_; rintro e w' ⟨rfl, rfl⟩)
    | (go_at_call 181; refine (isWeight_any _ _).mono ?_; rintro e w' ⟨rfl, rfl⟩; rw [hr1.2.2.2]))
  have hm2 := is_id hm
  unfold memC at hm2
  try refine wp_region_noPanic ?_
  have hs1r : (fun w' => Below w1.heap.size w1 w') w1.drew := (Below.refl _ _).drew
  refine wp_region_held_drew (S := fun w' => Below w1.heap.size w1 w') (by kernel_rfl) hs1r (fun _ => ?_)
  (refine held_takeA 0 (by rfl) ?_ (by kernel_rfl) (fun _ _ _ h => h) hs1r ?_ ?_; rotate_left; (focus (intro wq hSw; have hrd := hSw; have hrd2 := zR hSw; have hlk := (h1.2.below hSw ltb).hit1 int_key map_und hk hm2; go_simp; try with_reducible rfl; done)); try simp only [Act.put, zA, zB, zC])
  (refine held_takeA 1 (by rfl) ?_ (by kernel_rfl) (fun _ _ _ h => h) hs1r ?_ ?_; rotate_left; (focus (intro wq hSw; have hrd := hSw; have hrd2 := zR hSw; have hlk := (h1.2.below hSw ltb).hit1 int_key map_und hk hm2; go_simp; try with_reducible rfl; done)); try simp only [Act.put, zA, zB, zC])
  (refine held_takeA 2 (by rfl) ?_ (by kernel_rfl) (fun _ _ _ h => h) hs1r ?_ ?_; rotate_left; (focus (intro wq hSw; have hrd := hSw; have hrd2 := zR hSw; have hlk := (h1.2.below hSw ltb).hit1 int_key map_und hk hm2; go_simp; try with_reducible rfl; done)); try simp only [Act.put, zA, zB, zC])
  (refine held_takeA 3 (by rfl) ?_ (by kernel_rfl) (fun _ _ _ h => h) hs1r ?_ ?_; rotate_left; (focus (intro wq hSw; have hrd := hSw; have hrd2 := zR hSw; have hlk := (h1.2.below hSw ltb).hit1 int_key map_und hk hm2; go_simp; try with_reducible rfl; done)); try simp only [Act.put, zA, zB, zC])
  (refine held_takeA 4 (by rfl) ?_ (by kernel_rfl) (fun _ _ _ h => h) hs1r ?_ ?_; rotate_left; (focus (intro wq hSw; have hrd := hSw; have hrd2 := zR hSw; have hlk := (h1.2.below hSw ltb).hit1 int_key map_und hk hm2; go_simp; try with_reducible rfl; done)); try simp only [Act.put, zA, zB, zC])
  (refine held_takeA 5 (by rfl) ?_ (by kernel_rfl) (fun _ _ _ h => h) hs1r ?_ ?_; rotate_left; (focus (intro wq hSw; have hrd := hSw; have hrd2 := zR hSw; have hlk := (h1.2.below hSw ltb).hit1 int_key map_und hk hm2; go_simp; try with_reducible rfl; done)); try simp only [Act.put, zA, zB, zC])
  (refine held_takeA 6 (by rfl) ?_ (by kernel_rfl) (fun _ _ _ h => h) hs1r ?_ ?_; rotate_left; (focus (intro wq hSw; have hrd := hSw; have hrd2 := zR hSw; have hlk := (h1.2.below hSw ltb).hit1 int_key map_und hk hm2; go_simp; try with_reducible rfl; done)); try simp only [Act.put, zA, zB, zC])
  (refine held_takeA 7 (by rfl) ?_ (by kernel_rfl) (fun _ _ _ h => h) hs1r ?_ ?_; rotate_left; (focus (intro wq hSw; have hrd := hSw; have hrd2 := zR hSw; have hlk := (h1.2.below hSw ltb).hit1 int_key map_und hk hm2; go_simp; try with_reducible rfl; done)); try simp only [Act.put, zA, zB, zC])
  (refine held_takeA 8 (by rfl) ?_ (by kernel_rfl) (fun _ _ _ h => h) hs1r ?_ ?_; rotate_left; (focus (intro wq hSw; have hrd := hSw; have hrd2 := zR hSw; have hlk := (h1.2.below hSw ltb).hit1 int_key map_und hk hm2; go_simp; try with_reducible rfl; done)); try simp only [Act.put, zA, zB, zC])
  (refine held_takeA 9 (by rfl) ?_ (by kernel_rfl) (fun _ _ _ h => h) hs1r ?_ ?_; rotate_left; (focus (intro wq hSw; have hrd := hSw; have hrd2 := zR hSw; have hlk := (h1.2.below hSw ltb).hit1 int_key map_und hk hm2; go_simp; try with_reducible rfl; done)); try simp only [Act.put, zA, zB, zC])
  refine held_callA 10 (by rfl) (by kernel_rfl) (by rfl) (fun KQ hKQ => ?_)
  go_simp
  have hw2 := (Below.refl w1.heap.size w1).drew.alloc (Nat.le_refl _) (.cells #[.int .i64 0, .int .u32 0, .int .i64 0, .bool false, .bool false] 216)
  have hr := Blk.new w1.drew 216 #[.int .i64 0, .int .u32 0, .int .i64 0, .bool false, .bool false]
  have hd : (w1.alloc (.cells #[.int .i64 0, .int .u32 0, .int .i64 0, .bool false, .bool false] 216)).drew = w1.drew.alloc (.cells #[.int .i64 0, .int .u32 0, .int .i64 0, .bool false, .bool false] 216) := rfl
  rw [hd]
  generalize w1.drew.alloc (.cells #[.int .i64 0, .int .u32 0, .int .i64 0, .bool false, .bool false] 216) = w2 at *
  clear hd
  have hs2r := hw2
  refine hKQ.out _ _ hs2r ?_
  clear hKQ KQ
  try simp only [Act.put, zA, zB, zC]
  refine held_callA 11 (by rfl) (by kernel_rfl) (by rfl) (fun KQ hKQ => ?_)
  refine wp_store_blk hr 216 (.tmp 5) (.tmp 37) (by rfl) (by rfl) (by rfl) (by rfl) (by exact hi5) (by simp [Value.oneCell']) ?_
  intro w3 hr3 hg3
  have hw3 := below_own hw2 hg3 hw2.size (Nat.le_refl _)
  have hs3r := hw3
  refine hKQ.out _ _ hs3r ?_
  clear hKQ KQ
  try simp only [Act.put]
  (refine held_takeA 12 (by rfl) ?_ (by kernel_rfl) (fun _ _ _ h => h) hs3r ?_ ?_; rotate_left; (focus (intro wq hSw; have hrd := hSw; have hrd2 := zR hSw; have hlk := (h1.2.below hSw ltb).hit1 int_key map_und hk hm2; go_simp; try with_reducible rfl; done)); try simp only [Act.put, zA, zB, zC])
  refine wpAnyH_done (by kernel_rfl) ?_ _
  try refine NoPanic.normal ?_
  clear hr hr3 hg3 hw2 p0 p1 p2 c1 ltp ltg ltb
  have h3 := h1.nx hw3
  have hB3 := hB.trans (hw3.mono hB.size)
  have hz3 := hB.size
  have ltp3 : w.heap.size < w1.heap.size := hp.lt
  have hp3 := hp.below hw3 ltp3
  go_wp2_with fail
  go_ret
  exact ⟨rfl, h3, grown_of_below hB3 (Nat.le_refl _) _⟩
set_option maxRecDepth 100000 in
set_option maxHeartbeats 2000000 in
theorem addFull (w : World) (g b : Nat) (pc : Int) (M : List Mem) (id ad wt : Int) (h : PoolIn w g b pc M) (hok : addOk id ad wt = true) (hnot : ∀ m ∈ M, m.id ≠ id) (hfull : 16 ≤ M.length) :
    Calls Tryz.prog 108 #[.pointer (some ⟨g, 0, none⟩), .agg #[.int .i64 id, .int .u32 ad, .int .i64 wt]] w fun e w' => e = .returned (.int .i64 6) ∧ PoolIn w' g b pc (M) ∧ w.grownBy w' (some b) := by
  have hi5 : (Tryz.prog.info? 216).map (·.size) = some 5 := by kernel_rfl
  have hB := (Below.refl w.heap.size w).alloc (Nat.le_refl _) (.cells #[.int .i64 id, .int .u32 ad, .int .i64 wt] 120)
  have hp := Blk.new w 120 #[.int .i64 id, .int .u32 ad, .int .i64 wt]
  have h1 := h.alloc (.cells #[.int .i64 id, .int .u32 ad, .int .i64 wt] 120)
  have hr1 : 0 ≤ id ∧ id ≤ 255 ∧ ad ≠ 0 ∧ wtB wt = true := by
    unfold addOk at hok; simp at hok; exact ⟨hok.1.1.1, hok.1.1.2, hok.1.2, hok.2⟩
  have hk := int_lit id (by omega) (by omega)
  go_enter Tryz.func108, Tryz.ntmps108
  go_upto_region 1 with (fail)
  generalize w.alloc (.cells #[.int .i64 id, .int .u32 ad, .int .i64 wt] 120) = w1 at *
  have p0 : w1.cell? ⟨w.heap.size, 0, none⟩ = some (.int .i64 id) := hp.cellv 0 rfl
  have p1 : w1.cell? ⟨w.heap.size, 1, none⟩ = some (.int .u32 ad) := hp.cellv 1 rfl
  have p2 : w1.cell? ⟨w.heap.size, 2, none⟩ = some (.int .i64 wt) := hp.cellv 2 rfl
  have c1 : w1.cell? ⟨g, 1, none⟩ = some (.map (some b)) := h1.1.cellv 1 rfl
  have ltp := hp.lt
  have ltg := h1.ltg
  have ltb := h1.ltb
  have d1 : decide (id < 0) = false := by simp; omega
  have d2 : decide (255 < id) = false := by simp; omega
  have d3 : (ad == 0) = false := by simpa using hr1.2.2.1
  go_upto_region 5 with (first
    | (go_at_call 182; refine (made_in h1).mono ?_; rintro e w' ⟨rfl, rfl⟩)
    | (go_at_call 181; refine (isWeight_any _ _).mono ?_; rintro e w' ⟨rfl, rfl⟩; rw [hr1.2.2.2]))
  have hm2 := no_id hnot
  try refine wp_region_noPanic ?_
  have hs4r : (fun w' => Below w1.heap.size w1 w') w1.drew := (Below.refl _ _).drew
  refine wp_region_held_drew (S := fun w' => Below w1.heap.size w1 w') (by kernel_rfl) hs4r (fun _ => ?_)
  (refine held_takeA 0 (by rfl) ?_ (by kernel_rfl) (fun _ _ _ h => h) hs4r ?_ ?_; rotate_left; (focus (intro wq hSw; have hrd := hSw; have hrd2 := zR hSw; have hlk := (h1.2.below hSw ltb).miss1 int_key map_und mem_zero hk hm2; go_simp; try with_reducible rfl; done)); try simp only [Act.put, zA, zB, zC])
  (refine held_takeA 1 (by rfl) ?_ (by kernel_rfl) (fun _ _ _ h => h) hs4r ?_ ?_; rotate_left; (focus (intro wq hSw; have hrd := hSw; have hrd2 := zR hSw; have hlk := (h1.2.below hSw ltb).miss1 int_key map_und mem_zero hk hm2; go_simp; try with_reducible rfl; done)); try simp only [Act.put, zA, zB, zC])
  (refine held_takeA 2 (by rfl) ?_ (by kernel_rfl) (fun _ _ _ h => h) hs4r ?_ ?_; rotate_left; (focus (intro wq hSw; have hrd := hSw; have hrd2 := zR hSw; have hlk := (h1.2.below hSw ltb).miss1 int_key map_und mem_zero hk hm2; go_simp; try with_reducible rfl; done)); try simp only [Act.put, zA, zB, zC])
  (refine held_takeA 3 (by rfl) ?_ (by kernel_rfl) (fun _ _ _ h => h) hs4r ?_ ?_; rotate_left; (focus (intro wq hSw; have hrd := hSw; have hrd2 := zR hSw; have hlk := (h1.2.below hSw ltb).miss1 int_key map_und mem_zero hk hm2; go_simp; try with_reducible rfl; done)); try simp only [Act.put, zA, zB, zC])
  (refine held_takeA 4 (by rfl) ?_ (by kernel_rfl) (fun _ _ _ h => h) hs4r ?_ ?_; rotate_left; (focus (intro wq hSw; have hrd := hSw; have hrd2 := zR hSw; have hlk := (h1.2.below hSw ltb).miss1 int_key map_und mem_zero hk hm2; go_simp; try with_reducible rfl; done)); try simp only [Act.put, zA, zB, zC])
  (refine held_takeA 5 (by rfl) ?_ (by kernel_rfl) (fun _ _ _ h => h) hs4r ?_ ?_; rotate_left; (focus (intro wq hSw; have hrd := hSw; have hrd2 := zR hSw; have hlk := (h1.2.below hSw ltb).miss1 int_key map_und mem_zero hk hm2; go_simp; try with_reducible rfl; done)); try simp only [Act.put, zA, zB, zC])
  (refine held_takeA 6 (by rfl) ?_ (by kernel_rfl) (fun _ _ _ h => h) hs4r ?_ ?_; rotate_left; (focus (intro wq hSw; have hrd := hSw; have hrd2 := zR hSw; have hlk := (h1.2.below hSw ltb).miss1 int_key map_und mem_zero hk hm2; go_simp; try with_reducible rfl; done)); try simp only [Act.put, zA, zB, zC])
  (refine held_takeA 7 (by rfl) ?_ (by kernel_rfl) (fun _ _ _ h => h) hs4r ?_ ?_; rotate_left; (focus (intro wq hSw; have hrd := hSw; have hrd2 := zR hSw; have hlk := (h1.2.below hSw ltb).miss1 int_key map_und mem_zero hk hm2; go_simp; try with_reducible rfl; done)); try simp only [Act.put, zA, zB, zC])
  (refine held_takeA 8 (by rfl) ?_ (by kernel_rfl) (fun _ _ _ h => h) hs4r ?_ ?_; rotate_left; (focus (intro wq hSw; have hrd := hSw; have hrd2 := zR hSw; have hlk := (h1.2.below hSw ltb).miss1 int_key map_und mem_zero hk hm2; go_simp; try with_reducible rfl; done)); try simp only [Act.put, zA, zB, zC])
  (refine held_takeA 9 (by rfl) ?_ (by kernel_rfl) (fun _ _ _ h => h) hs4r ?_ ?_; rotate_left; (focus (intro wq hSw; have hrd := hSw; have hrd2 := zR hSw; have hlk := (h1.2.below hSw ltb).miss1 int_key map_und mem_zero hk hm2; go_simp; try with_reducible rfl; done)); try simp only [Act.put, zA, zB, zC])
  refine held_callA 10 (by rfl) (by kernel_rfl) (by rfl) (fun KQ hKQ => ?_)
  go_simp
  have hw2 := (Below.refl w1.heap.size w1).drew.alloc (Nat.le_refl _) (.cells #[.int .i64 0, .int .u32 0, .int .i64 0, .bool false, .bool false] 216)
  have hr := Blk.new w1.drew 216 #[.int .i64 0, .int .u32 0, .int .i64 0, .bool false, .bool false]
  have hd : (w1.alloc (.cells #[.int .i64 0, .int .u32 0, .int .i64 0, .bool false, .bool false] 216)).drew = w1.drew.alloc (.cells #[.int .i64 0, .int .u32 0, .int .i64 0, .bool false, .bool false] 216) := rfl
  rw [hd]
  generalize w1.drew.alloc (.cells #[.int .i64 0, .int .u32 0, .int .i64 0, .bool false, .bool false] 216) = w2 at *
  clear hd
  have hs5r := hw2
  refine hKQ.out _ _ hs5r ?_
  clear hKQ KQ
  try simp only [Act.put, zA, zB, zC]
  refine held_callA 11 (by rfl) (by kernel_rfl) (by rfl) (fun KQ hKQ => ?_)
  refine wp_store_blk hr 216 (.tmp 5) (.tmp 37) (by rfl) (by rfl) (by rfl) (by rfl) (by exact hi5) (by simp [Value.oneCell']) ?_
  intro w3 hr3 hg3
  have hw3 := below_own hw2 hg3 hw2.size (Nat.le_refl _)
  have hs6r := hw3
  refine hKQ.out _ _ hs6r ?_
  clear hKQ KQ
  try simp only [Act.put]
  (refine held_takeA 12 (by rfl) ?_ (by kernel_rfl) (fun _ _ _ h => h) hs6r ?_ ?_; rotate_left; (focus (intro wq hSw; have hrd := hSw; have hrd2 := zR hSw; have hlk := (h1.2.below hSw ltb).miss1 int_key map_und mem_zero hk hm2; go_simp; try with_reducible rfl; done)); try simp only [Act.put, zA, zB, zC])
  refine wpAnyH_done (by kernel_rfl) ?_ _
  try refine NoPanic.normal ?_
  clear hr hr3 hg3 hw2 p0 p1 p2 c1 ltp ltg ltb
  have h3 := h1.nx hw3
  have hB3 := hB.trans (hw3.mono hB.size)
  have hz3 := hB.size
  have ltp3 : w.heap.size < w1.heap.size := hp.lt
  have hp3 := hp.below hw3 ltp3
  have c1 : w3.cell? ⟨g, 1, none⟩ = some (.map (some b)) := h3.1.cellv 1 rfl
  have ltg := h3.ltg
  have ltb := h3.ltb
  have hlen := fun ty => h3.2.len map_und ty
  rw [List.length_map] at hlen
  have d4 : decide ((16 : Int) ≤ M.length) = true := by simp; omega
  go_wp2_with fail
  go_ret
  exact ⟨rfl, h3, grown_of_below hB3 (Nat.le_refl _) _⟩
set_option maxRecDepth 100000 in
set_option maxHeartbeats 2000000 in
theorem addNew (w : World) (g b : Nat) (pc : Int) (M : List Mem) (id ad wt : Int) (h : PoolIn w g b pc M) (hok : addOk id ad wt = true) (hnot : ∀ m ∈ M, m.id ≠ id) (hroom : M.length < 16) :
    Calls Tryz.prog 108 #[.pointer (some ⟨g, 0, none⟩), .agg #[.int .i64 id, .int .u32 ad, .int .i64 wt]] w fun e w' => e = .returned (.int .i64 0) ∧ PoolIn w' g b pc (M ++ [⟨id, ad, wt, false, false⟩]) ∧ w.grownBy w' (some b) := by
  have hi5 : (Tryz.prog.info? 216).map (·.size) = some 5 := by kernel_rfl
  have hB := (Below.refl w.heap.size w).alloc (Nat.le_refl _) (.cells #[.int .i64 id, .int .u32 ad, .int .i64 wt] 120)
  have hp := Blk.new w 120 #[.int .i64 id, .int .u32 ad, .int .i64 wt]
  have h1 := h.alloc (.cells #[.int .i64 id, .int .u32 ad, .int .i64 wt] 120)
  have hr1 : 0 ≤ id ∧ id ≤ 255 ∧ ad ≠ 0 ∧ wtB wt = true := by
    unfold addOk at hok; simp at hok; exact ⟨hok.1.1.1, hok.1.1.2, hok.1.2, hok.2⟩
  have hk := int_lit id (by omega) (by omega)
  go_enter Tryz.func108, Tryz.ntmps108
  go_upto_region 1 with (fail)
  generalize w.alloc (.cells #[.int .i64 id, .int .u32 ad, .int .i64 wt] 120) = w1 at *
  have p0 : w1.cell? ⟨w.heap.size, 0, none⟩ = some (.int .i64 id) := hp.cellv 0 rfl
  have p1 : w1.cell? ⟨w.heap.size, 1, none⟩ = some (.int .u32 ad) := hp.cellv 1 rfl
  have p2 : w1.cell? ⟨w.heap.size, 2, none⟩ = some (.int .i64 wt) := hp.cellv 2 rfl
  have c1 : w1.cell? ⟨g, 1, none⟩ = some (.map (some b)) := h1.1.cellv 1 rfl
  have ltp := hp.lt
  have ltg := h1.ltg
  have ltb := h1.ltb
  have d1 : decide (id < 0) = false := by simp; omega
  have d2 : decide (255 < id) = false := by simp; omega
  have d3 : (ad == 0) = false := by simpa using hr1.2.2.1
  go_upto_region 5 with (first
    | (go_at_call 182; refine (made_in h1).mono ?_; rintro e w' ⟨rfl, rfl⟩)
    | (go_at_call 181; refine (isWeight_any _ _).mono ?_; rintro e w' ⟨rfl, rfl⟩; rw [hr1.2.2.2]))
  have hm2 := no_id hnot
  try refine wp_region_noPanic ?_
  have hs7r : (fun w' => Below w1.heap.size w1 w') w1.drew := (Below.refl _ _).drew
  refine wp_region_held_drew (S := fun w' => Below w1.heap.size w1 w') (by kernel_rfl) hs7r (fun _ => ?_)
  (refine held_takeA 0 (by rfl) ?_ (by kernel_rfl) (fun _ _ _ h => h) hs7r ?_ ?_; rotate_left; (focus (intro wq hSw; have hrd := hSw; have hrd2 := zR hSw; have hlk := (h1.2.below hSw ltb).miss1 int_key map_und mem_zero hk hm2; go_simp; try with_reducible rfl; done)); try simp only [Act.put, zA, zB, zC])
  (refine held_takeA 1 (by rfl) ?_ (by kernel_rfl) (fun _ _ _ h => h) hs7r ?_ ?_; rotate_left; (focus (intro wq hSw; have hrd := hSw; have hrd2 := zR hSw; have hlk := (h1.2.below hSw ltb).miss1 int_key map_und mem_zero hk hm2; go_simp; try with_reducible rfl; done)); try simp only [Act.put, zA, zB, zC])
  (refine held_takeA 2 (by rfl) ?_ (by kernel_rfl) (fun _ _ _ h => h) hs7r ?_ ?_; rotate_left; (focus (intro wq hSw; have hrd := hSw; have hrd2 := zR hSw; have hlk := (h1.2.below hSw ltb).miss1 int_key map_und mem_zero hk hm2; go_simp; try with_reducible rfl; done)); try simp only [Act.put, zA, zB, zC])
  (refine held_takeA 3 (by rfl) ?_ (by kernel_rfl) (fun _ _ _ h => h) hs7r ?_ ?_; rotate_left; (focus (intro wq hSw; have hrd := hSw; have hrd2 := zR hSw; have hlk := (h1.2.below hSw ltb).miss1 int_key map_und mem_zero hk hm2; go_simp; try with_reducible rfl; done)); try simp only [Act.put, zA, zB, zC])
  (refine held_takeA 4 (by rfl) ?_ (by kernel_rfl) (fun _ _ _ h => h) hs7r ?_ ?_; rotate_left; (focus (intro wq hSw; have hrd := hSw; have hrd2 := zR hSw; have hlk := (h1.2.below hSw ltb).miss1 int_key map_und mem_zero hk hm2; go_simp; try with_reducible rfl; done)); try simp only [Act.put, zA, zB, zC])
  (refine held_takeA 5 (by rfl) ?_ (by kernel_rfl) (fun _ _ _ h => h) hs7r ?_ ?_; rotate_left; (focus (intro wq hSw; have hrd := hSw; have hrd2 := zR hSw; have hlk := (h1.2.below hSw ltb).miss1 int_key map_und mem_zero hk hm2; go_simp; try with_reducible rfl; done)); try simp only [Act.put, zA, zB, zC])
  (refine held_takeA 6 (by rfl) ?_ (by kernel_rfl) (fun _ _ _ h => h) hs7r ?_ ?_; rotate_left; (focus (intro wq hSw; have hrd := hSw; have hrd2 := zR hSw; have hlk := (h1.2.below hSw ltb).miss1 int_key map_und mem_zero hk hm2; go_simp; try with_reducible rfl; done)); try simp only [Act.put, zA, zB, zC])
  (refine held_takeA 7 (by rfl) ?_ (by kernel_rfl) (fun _ _ _ h => h) hs7r ?_ ?_; rotate_left; (focus (intro wq hSw; have hrd := hSw; have hrd2 := zR hSw; have hlk := (h1.2.below hSw ltb).miss1 int_key map_und mem_zero hk hm2; go_simp; try with_reducible rfl; done)); try simp only [Act.put, zA, zB, zC])
  (refine held_takeA 8 (by rfl) ?_ (by kernel_rfl) (fun _ _ _ h => h) hs7r ?_ ?_; rotate_left; (focus (intro wq hSw; have hrd := hSw; have hrd2 := zR hSw; have hlk := (h1.2.below hSw ltb).miss1 int_key map_und mem_zero hk hm2; go_simp; try with_reducible rfl; done)); try simp only [Act.put, zA, zB, zC])
  (refine held_takeA 9 (by rfl) ?_ (by kernel_rfl) (fun _ _ _ h => h) hs7r ?_ ?_; rotate_left; (focus (intro wq hSw; have hrd := hSw; have hrd2 := zR hSw; have hlk := (h1.2.below hSw ltb).miss1 int_key map_und mem_zero hk hm2; go_simp; try with_reducible rfl; done)); try simp only [Act.put, zA, zB, zC])
  refine held_callA 10 (by rfl) (by kernel_rfl) (by rfl) (fun KQ hKQ => ?_)
  go_simp
  have hw2 := (Below.refl w1.heap.size w1).drew.alloc (Nat.le_refl _) (.cells #[.int .i64 0, .int .u32 0, .int .i64 0, .bool false, .bool false] 216)
  have hr := Blk.new w1.drew 216 #[.int .i64 0, .int .u32 0, .int .i64 0, .bool false, .bool false]
  have hd : (w1.alloc (.cells #[.int .i64 0, .int .u32 0, .int .i64 0, .bool false, .bool false] 216)).drew = w1.drew.alloc (.cells #[.int .i64 0, .int .u32 0, .int .i64 0, .bool false, .bool false] 216) := rfl
  rw [hd]
  generalize w1.drew.alloc (.cells #[.int .i64 0, .int .u32 0, .int .i64 0, .bool false, .bool false] 216) = w2 at *
  clear hd
  have hs8r := hw2
  refine hKQ.out _ _ hs8r ?_
  clear hKQ KQ
  try simp only [Act.put, zA, zB, zC]
  refine held_callA 11 (by rfl) (by kernel_rfl) (by rfl) (fun KQ hKQ => ?_)
  refine wp_store_blk hr 216 (.tmp 5) (.tmp 37) (by rfl) (by rfl) (by rfl) (by rfl) (by exact hi5) (by simp [Value.oneCell']) ?_
  intro w3 hr3 hg3
  have hw3 := below_own hw2 hg3 hw2.size (Nat.le_refl _)
  have hs9r := hw3
  refine hKQ.out _ _ hs9r ?_
  clear hKQ KQ
  try simp only [Act.put]
  (refine held_takeA 12 (by rfl) ?_ (by kernel_rfl) (fun _ _ _ h => h) hs9r ?_ ?_; rotate_left; (focus (intro wq hSw; have hrd := hSw; have hrd2 := zR hSw; have hlk := (h1.2.below hSw ltb).miss1 int_key map_und mem_zero hk hm2; go_simp; try with_reducible rfl; done)); try simp only [Act.put, zA, zB, zC])
  refine wpAnyH_done (by kernel_rfl) ?_ _
  try refine NoPanic.normal ?_
  clear hr hr3 hg3 hw2 p0 p1 p2 c1 ltp ltg ltb
  have h3 := h1.nx hw3
  have hB3 := hB.trans (hw3.mono hB.size)
  have hz3 := hB.size
  have ltp3 : w.heap.size < w1.heap.size := hp.lt
  have hp3 := hp.below hw3 ltp3
  have c1 : w3.cell? ⟨g, 1, none⟩ = some (.map (some b)) := h3.1.cellv 1 rfl
  have ltg := h3.ltg
  have ltb := h3.ltb
  have hlen := fun ty => h3.2.len map_und ty
  rw [List.length_map] at hlen
  have d4 : decide ((16 : Int) ≤ M.length) = false := by simp; omega
  go_upto_region 10 with (fail)
  have p0 : w3.cell? ⟨w.heap.size, 0, none⟩ = some (.int .i64 id) := hp3.cellv 0 rfl
  have ltp := hp3.lt
  have hgb : g ≠ b := h.ne
  have ltb0 := h.ltb
  have hpb : w.heap.size ≠ b := by omega
  try refine wp_region_noPanic ?_
  have hs10r : w3.grownBy w3.drew (some b) := grown_drew (grown_refl _ _)
  refine wp_region_held_drew (S := fun w' => w3.grownBy w' (some b)) (by kernel_rfl) hs10r (fun _ => ?_)
  (refine held_takeA 0 (by rfl) ?_ (by kernel_rfl) (fun _ _ _ h => h) hs10r ?_ ?_; rotate_left; (focus (intro wq hSw; have hrd := zG hSw; go_simp; try with_reducible rfl; done)); try simp only [Act.put, zA, zB, zC])
  (refine held_takeA 1 (by rfl) ?_ (by kernel_rfl) (fun _ _ _ h => h) hs10r ?_ ?_; rotate_left; (focus (intro wq hSw; have hrd := zG hSw; go_simp; try with_reducible rfl; done)); try simp only [Act.put, zA, zB, zC])
  (refine held_takeA 2 (by rfl) ?_ (by kernel_rfl) (fun _ _ _ h => h) hs10r ?_ ?_; rotate_left; (focus (intro wq hSw; have hrd := zG hSw; go_simp; try with_reducible rfl; done)); try simp only [Act.put, zA, zB, zC])
  (refine held_takeA 3 (by rfl) ?_ (by kernel_rfl) (fun _ _ _ h => h) hs10r ?_ ?_; rotate_left; (focus (intro wq hSw; have hrd := zG hSw; go_simp; try with_reducible rfl; done)); try simp only [Act.put, zA, zB, zC])
  (refine held_takeA 4 (by rfl) ?_ (by kernel_rfl) (fun _ _ _ h => h) hs10r ?_ ?_; rotate_left; (focus (intro wq hSw; have hrd := zG hSw; go_simp; try with_reducible rfl; done)); try simp only [Act.put, zA, zB, zC])
  (refine held_takeA 5 (by rfl) ?_ (by kernel_rfl) (fun _ _ _ h => h) hs10r ?_ ?_; rotate_left; (focus (intro wq hSw; have hrd := zG hSw; go_simp; try with_reducible rfl; done)); try simp only [Act.put, zA, zB, zC])
  (refine held_takeA 6 (by rfl) ?_ (by kernel_rfl) (fun _ _ _ h => h) hs10r ?_ ?_; rotate_left; (focus (intro wq hSw; refine exec_load_blk (x := .tmp 3) ?_ ?_ (hp3.grown hSw (by simp; omega)) _ Tryz.underlying120 rfl (by kernel_rfl) <;> rfl)); simp only [Act.put, zA, zB, zC])
  (refine held_takeA 7 (by rfl) ?_ (by kernel_rfl) (fun _ _ _ h => h) hs10r ?_ ?_; rotate_left; (focus (intro wq hSw; have hrd := zG hSw; go_simp; try with_reducible rfl; done)); try simp only [Act.put, zA, zB, zC])
  refine held_callA 8 (by rfl) (by kernel_rfl) (by rfl) (fun KQ hKQ => ?_)
  refine wp_put_new (key := .int .i64 id) (val := .agg (memC ⟨id, ad, wt, false, false⟩)) h3.2.drew int_key map_und (.tmp 49) (.tmp 51) (.tmp 53) (by rfl) (by rfl) (by rfl) (by rfl) hk hm2 ?_
  intro w4 he4 hg4
  refine hKQ.out _ _ (grown_trans hs10r hg4) (held_mono (S' := fun w' => w4.grownBy w' (some b)) (fun w' h => grown_trans (grown_trans hs10r hg4) h) _ _ _ _ ?_)
  clear hKQ KQ
  replace hp3 := hp3.grown (grown_trans hs10r hg4) (by simp; omega)
  have hs11r : w4.grownBy w4 (some b) := grown_refl _ _
  try simp only [Act.put]
  refine wpAnyH_done (by kernel_rfl) ?_ _
  try refine NoPanic.normal ?_
  go_wp2_with fail
  go_ret
  have hg5 : w3.grownBy w4 (some b) := grown_trans (grown_drew (grown_refl w3 (some b))) hg4
  refine ⟨rfl, ⟨h3.1.grown hg5 (by simp; omega), ?_⟩, grown_trans (grown_of_below hB3 (Nat.le_refl _) _) hg5⟩
  rw [List.map_append]
  exact he4
end Go.Proofs.YtgdeecmhhbdjgaaGreat

/- policy: the document's Good (a namespace of its own). -/
namespace Go.Proofs.YtgdeecmhhbdjgaaGreat.pl
set_option linter.unusedVariables false
open Go Go.RowKit

theorem refHop_any (h : Int) (w : World) (h0 : 0 ≤ h) (h1 : h ≤ 4294967295) : Calls Tryz.prog 226 #[.int .u32 h] w fun e w' => e = .returned (.bool (hopV h)) ∧ w = w' := by
  go_enter Tryz.func226, Tryz.ntmps226
  go_wp2_with fail
  all_goals go_ret
  all_goals (refine ⟨ret_bool ?_, rfl⟩; simp_all [hopV])
set_option maxRecDepth 100000 in
set_option maxHeartbeats 8000000 in
theorem refGood17_any (s h m p b : Int) (w : World) (h0 : 0 ≤ h) (h1 : h ≤ 4294967295) : Calls Tryz.prog 224 #[.agg #[.int .i64 s, .int .u32 h, .int .i64 m, .int .i64 p, .int .i64 b]] w fun e w' => e = .returned (.bool (goodV s h m p b)) ∧ Below w.heap.size w w' := by
  have hB := (Below.refl w.heap.size w).alloc (Nat.le_refl _) (.cells #[.int .i64 s, .int .u32 h, .int .i64 m, .int .i64 p, .int .i64 b] 276)
  have hq := Blk.new w 276 #[.int .i64 s, .int .u32 h, .int .i64 m, .int .i64 p, .int .i64 b]
  go_enter Tryz.func224, Tryz.ntmps224
  go_upto_region 1 with (fail)
  generalize w.alloc (.cells #[.int .i64 s, .int .u32 h, .int .i64 m, .int .i64 p, .int .i64 b] 276) = w1 at *
  have lt0 := hq.lt
  have q0 : w1.cell? ⟨w.heap.size, 0, none⟩ = some (.int .i64 s) := hq.cellv 0 rfl
  have q1 : w1.cell? ⟨w.heap.size, 1, none⟩ = some (.int .u32 h) := hq.cellv 1 rfl
  have q2 : w1.cell? ⟨w.heap.size, 2, none⟩ = some (.int .i64 m) := hq.cellv 2 rfl
  have q3 : w1.cell? ⟨w.heap.size, 3, none⟩ = some (.int .i64 p) := hq.cellv 3 rfl
  have q4 : w1.cell? ⟨w.heap.size, 4, none⟩ = some (.int .i64 b) := hq.cellv 4 rfl
  cases eh : hopV h
  · skip
    by_cases e_0 : 0 ≤ m
    rotate_left
    · have k9 : m < 0 := by omega
      have ev : goodV s h m p b = false := by unfold goodV; simp [inV, *] <;> omega
      replace ev := Lib.hid ev
      go_wp2_with (go_at_call 226; refine (refHop_any _ _ h0 h1).mono ?_; rintro e w' ⟨rfl, rfl⟩; rw [eh])
      go_ret
      exact ⟨ret_bool (by first | exact ev.out.symm | (rw [ev.out]; simp; omega)), hB⟩
    by_cases e_1 : m ≤ 4294967295
    rotate_left
    · have k9 : 4294967295 < m := by omega
      have ev : goodV s h m p b = false := by unfold goodV; simp [inV, *] <;> omega
      replace ev := Lib.hid ev
      go_wp2_with (go_at_call 226; refine (refHop_any _ _ h0 h1).mono ?_; rintro e w' ⟨rfl, rfl⟩; rw [eh])
      go_ret
      exact ⟨ret_bool (by first | exact ev.out.symm | (rw [ev.out]; simp; omega)), hB⟩
    by_cases e_2 : 0 ≤ b
    rotate_left
    · have k9 : b < 0 := by omega
      have ev : goodV s h m p b = false := by unfold goodV; simp [inV, *] <;> omega
      replace ev := Lib.hid ev
      go_wp2_with (go_at_call 226; refine (refHop_any _ _ h0 h1).mono ?_; rintro e w' ⟨rfl, rfl⟩; rw [eh])
      go_ret
      exact ⟨ret_bool (by first | exact ev.out.symm | (rw [ev.out]; simp; omega)), hB⟩
    by_cases e_3 : b ≤ 4294967295
    rotate_left
    · have k9 : 4294967295 < b := by omega
      have ev : goodV s h m p b = false := by unfold goodV; simp [inV, *] <;> omega
      replace ev := Lib.hid ev
      go_wp2_with (go_at_call 226; refine (refHop_any _ _ h0 h1).mono ?_; rintro e w' ⟨rfl, rfl⟩; rw [eh])
      go_ret
      exact ⟨ret_bool (by first | exact ev.out.symm | (rw [ev.out]; simp; omega)), hB⟩
    by_cases e_4 : 1 ≤ s
    rotate_left
    · have k9 : s < 1 := by omega
      have ev : goodV s h m p b = false := by unfold goodV; simp [inV, *] <;> omega
      replace ev := Lib.hid ev
      go_wp2_with (go_at_call 226; refine (refHop_any _ _ h0 h1).mono ?_; rintro e w' ⟨rfl, rfl⟩; rw [eh])
      go_ret
      exact ⟨ret_bool (by first | exact ev.out.symm | (rw [ev.out]; simp; omega)), hB⟩
    by_cases e_5 : s ≤ 65535
    rotate_left
    · have k9 : 65535 < s := by omega
      have ev : goodV s h m p b = false := by unfold goodV; simp [inV, *] <;> omega
      replace ev := Lib.hid ev
      go_wp2_with (go_at_call 226; refine (refHop_any _ _ h0 h1).mono ?_; rintro e w' ⟨rfl, rfl⟩; rw [eh])
      go_ret
      exact ⟨ret_bool (by first | exact ev.out.symm | (rw [ev.out]; simp; omega)), hB⟩
    have ev : goodV s h m p b = false := by unfold goodV; simp [inV, *] <;> omega
    replace ev := Lib.hid ev
    go_wp2_with (go_at_call 226; refine (refHop_any _ _ h0 h1).mono ?_; rintro e w' ⟨rfl, rfl⟩; rw [eh])
    go_ret
    exact ⟨ret_bool (by first | exact ev.out.symm | (rw [ev.out]; simp; omega)), hB⟩
  · skip
    by_cases e_0 : 0 ≤ m
    rotate_left
    · have k9 : m < 0 := by omega
      have ev : goodV s h m p b = false := by unfold goodV; simp [inV, *] <;> omega
      replace ev := Lib.hid ev
      go_wp2_with (go_at_call 226; refine (refHop_any _ _ h0 h1).mono ?_; rintro e w' ⟨rfl, rfl⟩; rw [eh])
      go_ret
      exact ⟨ret_bool (by first | exact ev.out.symm | (rw [ev.out]; simp; omega)), hB⟩
    by_cases e_1 : m ≤ 4294967295
    rotate_left
    · have k9 : 4294967295 < m := by omega
      have ev : goodV s h m p b = false := by unfold goodV; simp [inV, *] <;> omega
      replace ev := Lib.hid ev
      go_wp2_with (go_at_call 226; refine (refHop_any _ _ h0 h1).mono ?_; rintro e w' ⟨rfl, rfl⟩; rw [eh])
      go_ret
      exact ⟨ret_bool (by first | exact ev.out.symm | (rw [ev.out]; simp; omega)), hB⟩
    by_cases e_2 : 0 ≤ b
    rotate_left
    · have k9 : b < 0 := by omega
      have ev : goodV s h m p b = false := by unfold goodV; simp [inV, *] <;> omega
      replace ev := Lib.hid ev
      go_wp2_with (go_at_call 226; refine (refHop_any _ _ h0 h1).mono ?_; rintro e w' ⟨rfl, rfl⟩; rw [eh])
      go_ret
      exact ⟨ret_bool (by first | exact ev.out.symm | (rw [ev.out]; simp; omega)), hB⟩
    by_cases e_3 : b ≤ 4294967295
    rotate_left
    · have k9 : 4294967295 < b := by omega
      have ev : goodV s h m p b = false := by unfold goodV; simp [inV, *] <;> omega
      replace ev := Lib.hid ev
      go_wp2_with (go_at_call 226; refine (refHop_any _ _ h0 h1).mono ?_; rintro e w' ⟨rfl, rfl⟩; rw [eh])
      go_ret
      exact ⟨ret_bool (by first | exact ev.out.symm | (rw [ev.out]; simp; omega)), hB⟩
    by_cases e_4 : 1 ≤ s
    rotate_left
    · have k9 : s < 1 := by omega
      have ev : goodV s h m p b = false := by unfold goodV; simp [inV, *] <;> omega
      replace ev := Lib.hid ev
      go_wp2_with (go_at_call 226; refine (refHop_any _ _ h0 h1).mono ?_; rintro e w' ⟨rfl, rfl⟩; rw [eh])
      go_ret
      exact ⟨ret_bool (by first | exact ev.out.symm | (rw [ev.out]; simp; omega)), hB⟩
    by_cases e_5 : s ≤ 65535
    rotate_left
    · have k9 : 65535 < s := by omega
      have ev : goodV s h m p b = false := by unfold goodV; simp [inV, *] <;> omega
      replace ev := Lib.hid ev
      go_wp2_with (go_at_call 226; refine (refHop_any _ _ h0 h1).mono ?_; rintro e w' ⟨rfl, rfl⟩; rw [eh])
      go_ret
      exact ⟨ret_bool (by first | exact ev.out.symm | (rw [ev.out]; simp; omega)), hB⟩
    by_cases e_7 : 0 ≤ p
    rotate_left
    · have k9 : p < 0 := by omega
      have ev : goodV s h m p b = false := by unfold goodV; simp [inV, *] <;> omega
      replace ev := Lib.hid ev
      go_wp2_with (go_at_call 226; refine (refHop_any _ _ h0 h1).mono ?_; rintro e w' ⟨rfl, rfl⟩; rw [eh])
      go_ret
      exact ⟨ret_bool (by first | exact ev.out.symm | (rw [ev.out]; simp; omega)), hB⟩
    by_cases e_8 : p ≤ 15
    rotate_left
    · have k9 : 15 < p := by omega
      have ev : goodV s h m p b = false := by unfold goodV; simp [inV, *] <;> omega
      replace ev := Lib.hid ev
      go_wp2_with (go_at_call 226; refine (refHop_any _ _ h0 h1).mono ?_; rintro e w' ⟨rfl, rfl⟩; rw [eh])
      go_ret
      exact ⟨ret_bool (by first | exact ev.out.symm | (rw [ev.out]; simp; omega)), hB⟩
    have ev : goodV s h m p b = true := by unfold goodV; simp [inV, *] <;> omega
    replace ev := Lib.hid ev
    go_wp2_with (go_at_call 226; refine (refHop_any _ _ h0 h1).mono ?_; rintro e w' ⟨rfl, rfl⟩; rw [eh])
    go_ret
    exact ⟨ret_bool (by first | exact ev.out.symm | (rw [ev.out]; simp; omega)), hB⟩
end Go.Proofs.YtgdeecmhhbdjgaaGreat.pl
