import Derived.Test.YtgdeecmhhbdjgaaGreatMVipNone30
/- vip: VipNone: the law is true of every act. -/
namespace Go.Proofs.YtgdeecmhhbdjgaaGreat
set_option linter.unusedVariables false
open Go Go.RowKit Go.Maps

set_option maxRecDepth 100000 in
set_option maxHeartbeats 16000000 in
theorem vpPrefixNil (w : World) : Calls Tryz.prog 31 #[.pointer none] w fun e w' => e = .returned (.agg #[.int .u32 0, .int .i64 0]) ∧ Below w.heap.size w w' := by
  have hB := (Below.refl w.heap.size w).alloc (Nat.le_refl _) (.cells #[.int .u32 0, .int .i64 0] 57)
  have hq := Blk.new w 57 #[.int .u32 0, .int .i64 0]
  have hi : (Tryz.prog.info? 57).map (·.size) = some 2 := by kernel_rfl
  go_enter Tryz.func31, Tryz.ntmps31
  go_upto_region 1 with (fail)
  generalize w.alloc (.cells #[.int .u32 0, .int .i64 0] 57) = w1 at *
  go_wp2_with (first
    | (go_at_call 85; refine (vpMade_nil _).mono ?_; rintro en w' ⟨rfl, rfl⟩)
    | (refine wpList_store_blk rfl hq 57 (.tmp 2) (.tmp 6) rfl rfl rfl rfl hi (by simp [Value.oneCell']) ?_; intro w4 hq4 hg4))
  try rw [Exit.noGoto_ret]
  exact bodyPost_ret (results_c rfl _ rfl (load_blk hq4 Tryz.underlying57 rfl hi)) rfl ⟨rfl, below_own hB hg4 hB.size (Nat.le_refl _)⟩
set_option maxRecDepth 100000 in
set_option maxHeartbeats 16000000 in
theorem vpIdsNil (w : World) : Calls Tryz.prog 32 #[.pointer none] w fun e w' => e = .returned (.slice none 0 0) ∧ Below w.heap.size w w' := by
  go_enter Tryz.func32, Tryz.ntmps32
  go_wp2_with (first
    | (go_at_call 29; refine (vpPoolNil _ ).mono ?_; rintro en w' ⟨rfl, rfl⟩)
    | (go_at_call 98; refine (pAllNil w).mono ?_; rintro en w2 ⟨rfl, hb⟩))
  refine wp_loop_rounds 1 ?_
  change Code.rounds _ _ _ _ _ w2
  rw [rounds_succ]
  go_wp2_with fail
  go_ret
  exact ⟨rfl, hb⟩
set_option maxRecDepth 100000 in
set_option maxHeartbeats 16000000 in
theorem vpPrefixZero (w : World) (g : Nat) (h : Blk w g 62 (vpC vpZ)) : Calls Tryz.prog 31 #[.pointer (some ⟨g, 0, none⟩)] w fun e w' => e = .returned (.agg #[.int .u32 0, .int .i64 0]) ∧ Below w.heap.size w w' := by
  have hB := (Below.refl w.heap.size w).alloc (Nat.le_refl _) (.cells #[.int .u32 0, .int .i64 0] 57)
  have hq := Blk.new w 57 #[.int .u32 0, .int .i64 0]
  have h1 := h.alloc (.cells #[.int .u32 0, .int .i64 0] 57)
  have hi : (Tryz.prog.info? 57).map (·.size) = some 2 := by kernel_rfl
  go_enter Tryz.func31, Tryz.ntmps31
  go_upto_region 1 with (fail)
  generalize w.alloc (.cells #[.int .u32 0, .int .i64 0] 57) = w1 at *
  go_wp2_with (first
    | (go_at_call 85; refine (vpMade_zero _ g h1).mono ?_; rintro en w' ⟨rfl, rfl⟩)
    | (refine wpList_store_blk rfl hq 57 (.tmp 2) (.tmp 6) rfl rfl rfl rfl hi (by simp [Value.oneCell']) ?_; intro w4 hq4 hg4))
  try rw [Exit.noGoto_ret]
  exact bodyPost_ret (results_c rfl _ rfl (load_blk hq4 Tryz.underlying57 rfl hi)) rfl ⟨rfl, below_own hB hg4 hB.size (Nat.le_refl _)⟩
set_option maxRecDepth 100000 in
set_option maxHeartbeats 16000000 in
theorem vpIdsZero (w : World) (g : Nat) (h : Blk w g 62 (vpC vpZ)) : Calls Tryz.prog 32 #[.pointer (some ⟨g, 0, none⟩)] w fun e w' => e = .returned (.slice none 0 0) ∧ Below w.heap.size w w' := by
  go_enter Tryz.func32, Tryz.ntmps32
  go_wp2_with (first
    | (go_at_call 29; refine (vpPoolZero _ g h).mono ?_; rintro en w' ⟨rfl, rfl⟩)
    | (go_at_call 98; refine (pAllNil w).mono ?_; rintro en w2 ⟨rfl, hb⟩))
  refine wp_loop_rounds 1 ?_
  change Code.rounds _ _ _ _ _ w2
  rw [rounds_succ]
  go_wp2_with fail
  go_ret
  exact ⟨rfl, hb⟩
def Non (w : World) (x : Value) : Prop := x = .pointer none ∨ ∃ g, x = .pointer (some ⟨g, 0, none⟩) ∧ Blk w g 62 (vpC vpZ)
theorem Non.nx {w w' : World} {x : Value} (h : Non w x) (hb : Below w.heap.size w w') : Non w' x := h.elim .inl fun ⟨g, e, q⟩ => .inr ⟨g, e, q.below hb q.lt⟩
theorem vnResult {w : World} {x : Value} (h : Non w x) (i : Int) (b : Bool) : Calls Tryz.prog 17 #[x, .int .i64 i, .bool b] w fun e w' => e = .returned (.bool false) ∧ Lat w w' := by
  rcases h with rfl | ⟨g, rfl, hg⟩
  · exact (vpResultNil w i b).mono fun e w' hh => ⟨hh.1, hh.2 ▸ Lat.refl _⟩
  · exact (vpResultZero w g hg i b).mono fun e w' hh => ⟨hh.1, hh.2 ▸ Lat.refl _⟩
theorem vnLost {w : World} {x : Value} (h : Non w x) (i : Int) : Calls Tryz.prog 18 #[x, .int .i64 i] w fun e w' => e = .returned (.bool false) ∧ Lat w w' := by
  rcases h with rfl | ⟨g, rfl, hg⟩
  · exact (vpLostNil w i).mono fun e w' hh => ⟨hh.1, hh.2 ▸ Lat.refl _⟩
  · exact (vpLostZero w g hg i).mono fun e w' hh => ⟨hh.1, hh.2 ▸ Lat.refl _⟩
theorem vnTick {w : World} {x : Value} (h : Non w x) (b : Bool) : Calls Tryz.prog 19 #[x, .bool b] w fun e w' => e = .returned (.int .i64 0) ∧ Lat w w' := by
  rcases h with rfl | ⟨g, rfl, hg⟩
  · exact (vpTickNil w b).mono fun e w' hh => ⟨hh.1, hh.2 ▸ Lat.refl _⟩
  · exact (vpTickZero w g hg b).mono fun e w' hh => ⟨hh.1, hh.2 ▸ Lat.refl _⟩
theorem vnLook {w : World} {x : Value} (h : Non w x) (b : Bool) : Calls Tryz.prog 20 #[x, .bool b] w fun e w' => e = .returned (.int .i64 0) ∧ Lat w w' := by
  rcases h with rfl | ⟨g, rfl, hg⟩
  · exact (vpLookNil w b).mono fun e w' hh => ⟨hh.1, hh.2 ▸ Lat.refl _⟩
  · exact (vpLookZero w g hg b).mono fun e w' hh => ⟨hh.1, hh.2 ▸ Lat.refl _⟩
theorem vnLevel {w : World} {x : Value} (h : Non w x) : Calls Tryz.prog 21 #[x] w fun e w' => e = .returned (.int .i64 0) ∧ Lat w w' := by
  rcases h with rfl | ⟨g, rfl, hg⟩
  · exact (vpLevelNil w ).mono fun e w' hh => ⟨hh.1, hh.2 ▸ Lat.refl _⟩
  · exact (vpLevelZero w g hg ).mono fun e w' hh => ⟨hh.1, hh.2 ▸ Lat.refl _⟩
theorem vnPenalty {w : World} {x : Value} (h : Non w x) : Calls Tryz.prog 22 #[x] w fun e w' => e = .returned (.int .i64 0) ∧ Lat w w' := by
  rcases h with rfl | ⟨g, rfl, hg⟩
  · exact (vpPenaltyNil w ).mono fun e w' hh => ⟨hh.1, hh.2 ▸ Lat.refl _⟩
  · exact (vpPenaltyZero w g hg ).mono fun e w' hh => ⟨hh.1, hh.2 ▸ Lat.refl _⟩
theorem vnDrain {w : World} {x : Value} (h : Non w x) (i : Int) (b : Bool) : Calls Tryz.prog 23 #[x, .int .i64 i, .bool b] w fun e w' => e = .returned (.int .i64 1) ∧ Lat w w' := by
  rcases h with rfl | ⟨g, rfl, hg⟩
  · exact (vpDrainNil w i b).mono fun e w' hh => ⟨hh.1, hh.2 ▸ Lat.refl _⟩
  · exact (vpDrainZero w g hg i b).mono fun e w' hh => ⟨hh.1, hh.2 ▸ Lat.refl _⟩
theorem vnWeigh {w : World} {x : Value} (h : Non w x) (i n : Int) : Calls Tryz.prog 24 #[x, .int .i64 i, .int .i64 n] w fun e w' => e = .returned (.int .i64 1) ∧ Lat w w' := by
  rcases h with rfl | ⟨g, rfl, hg⟩
  · exact (vpWeighNil w i n).mono fun e w' hh => ⟨hh.1, hh.2 ▸ Lat.refl _⟩
  · exact (vpWeighZero w g hg i n).mono fun e w' hh => ⟨hh.1, hh.2 ▸ Lat.refl _⟩
theorem vnEnable {w : World} {x : Value} (h : Non w x) (b : Bool) : Calls Tryz.prog 25 #[x, .bool b] w fun e w' => e = .returned (.bool false) ∧ Lat w w' := by
  rcases h with rfl | ⟨g, rfl, hg⟩
  · exact (vpEnableNil w b).mono fun e w' hh => ⟨hh.1, hh.2 ▸ Lat.refl _⟩
  · exact (vpEnableZero w g hg b).mono fun e w' hh => ⟨hh.1, hh.2 ▸ Lat.refl _⟩
theorem vnEnabled {w : World} {x : Value} (h : Non w x) : Calls Tryz.prog 26 #[x] w fun e w' => e = .returned (.bool false) ∧ Lat w w' := by
  rcases h with rfl | ⟨g, rfl, hg⟩
  · exact (vpEnabledNil w ).mono fun e w' hh => ⟨hh.1, hh.2 ▸ Lat.refl _⟩
  · exact (vpEnabledZero w g hg ).mono fun e w' hh => ⟨hh.1, hh.2 ▸ Lat.refl _⟩
theorem vnHeld {w : World} {x : Value} (h : Non w x) : Calls Tryz.prog 27 #[x] w fun e w' => e = .returned (.bool false) ∧ Lat w w' := by
  rcases h with rfl | ⟨g, rfl, hg⟩
  · exact (vpHeldNil w ).mono fun e w' hh => ⟨hh.1, hh.2 ▸ Lat.refl _⟩
  · exact (vpHeldZero w g hg ).mono fun e w' hh => ⟨hh.1, hh.2 ▸ Lat.refl _⟩
theorem vnServable {w : World} {x : Value} (h : Non w x) (b : Bool) : Calls Tryz.prog 28 #[x, .bool b] w fun e w' => e = .returned (.bool false) ∧ Lat w w' := by
  rcases h with rfl | ⟨g, rfl, hg⟩
  · exact (vpServableNil w b).mono fun e w' hh => ⟨hh.1, hh.2 ▸ Lat.refl _⟩
  · exact (vpServableZero w g hg b).mono fun e w' hh => ⟨hh.1, hh.2 ▸ Lat.refl _⟩
theorem vnPool {w : World} {x : Value} (h : Non w x) : Calls Tryz.prog 29 #[x] w fun e w' => e = .returned (.pointer none) ∧ Lat w w' := by
  rcases h with rfl | ⟨g, rfl, hg⟩
  · exact (vpPoolNil w ).mono fun e w' hh => ⟨hh.1, hh.2 ▸ Lat.refl _⟩
  · exact (vpPoolZero w g hg ).mono fun e w' hh => ⟨hh.1, hh.2 ▸ Lat.refl _⟩
theorem vnFlows {w : World} {x : Value} (h : Non w x) : Calls Tryz.prog 30 #[x] w fun e w' => e = .returned (.pointer none) ∧ Lat w w' := by
  rcases h with rfl | ⟨g, rfl, hg⟩
  · exact (vpFlowsNil w ).mono fun e w' hh => ⟨hh.1, hh.2 ▸ Lat.refl _⟩
  · exact (vpFlowsZero w g hg ).mono fun e w' hh => ⟨hh.1, hh.2 ▸ Lat.refl _⟩
theorem vnPrefix {w : World} {x : Value} (h : Non w x) : Calls Tryz.prog 31 #[x] w fun e w' => e = .returned (.agg #[.int .u32 0, .int .i64 0]) ∧ Lat w w' := by
  rcases h with rfl | ⟨g, rfl, hg⟩
  · exact (vpPrefixNil w )
  · exact (vpPrefixZero w g hg )
theorem vnIds {w : World} {x : Value} (h : Non w x) : Calls Tryz.prog 32 #[x] w fun e w' => e = .returned (.slice none 0 0) ∧ Lat w w' := by
  rcases h with rfl | ⟨g, rfl, hg⟩
  · exact (vpIdsNil w )
  · exact (vpIdsZero w g hg )
theorem vnCopy {w : World} {x : Value} (h : Non w x) : Calls Tryz.prog 33 #[x] w fun e w' => e = .returned (.pointer none) ∧ Lat w w' := by
  rcases h with rfl | ⟨g, rfl, hg⟩
  · exact (vpCopyNil w ).mono fun e w' hh => ⟨hh.1, hh.2 ▸ Lat.refl _⟩
  · exact (vpCopyZero w g hg ).mono fun e w' hh => ⟨hh.1, hh.2 ▸ Lat.refl _⟩
set_option maxRecDepth 100000 in
set_option maxHeartbeats 16000000 in
theorem none33_walk (kd id n : Int) (on sm : Bool) (w : World) : Calls Tryz.prog 4 #[.agg #[.int .i64 kd, .int .i64 id, .int .i64 n, .bool on, .bool sm]] w fun e w' => e = .returned (.bool true) ∧ Below w.heap.size w w' := by
  have i0 : ∀ (x0 x1 : Value) (w : World), (Instr.index 64 (.agg #[x0, x1]) (.int .i64 0)).run Tryz.prog w = .ok x0 w := fun _ _ _ => by kernel_rfl
  have i1 : ∀ (x0 x1 : Value) (w : World), (Instr.index 64 (.agg #[x0, x1]) (.int .i64 1)).run Tryz.prog w = .ok x1 w := fun _ _ _ => by kernel_rfl
  have hB1 := (Below.refl w.heap.size w).alloc (Nat.le_refl _) (.cells #[.int .i64 kd, .int .i64 id, .int .i64 n, .bool on, .bool sm] 52)
  have ha := Blk.new w 52 #[.int .i64 kd, .int .i64 id, .int .i64 n, .bool on, .bool sm]
  go_enter Tryz.func4, Tryz.ntmps4
  go_upto_region 1 with (fail)
  generalize w.alloc (.cells #[.int .i64 kd, .int .i64 id, .int .i64 n, .bool on, .bool sm] 52) = w1 at *
  have hB2 := hB1.alloc hB1.size (.cells (vpC vpZ) 62)
  have hp := Blk.new w1 62 (vpC vpZ)
  have ha2 := ha.alloc (.cells (vpC vpZ) 62)
  have hzc : w1.alloc (.cells #[.pointer none, .int .u32 0, .int .i64 0, .pointer none, .pointer none, .map none, .bool false, .int .i64 0] 62) = w1.alloc (.cells (vpC vpZ) 62) := rfl
  go_upto_region 2 with (fail)
  try rw [hzc]
  clear hzc ha hB1
  generalize w1.alloc (.cells (vpC vpZ) 62) = w2 at *
  generalize w1.heap.size = gz at *
  go_wp2_with fail
  go_loopw [5, 7] (fun _ i wr => ∃ k : Nat, k ≤ 2 ∧ i = .int .i64 (k : Int) ∧ Blk wr w.heap.size 52 #[.int .i64 kd, .int .i64 id, .int .i64 n, .bool on, .bool sm] ∧ Blk wr gz 62 (vpC vpZ) ∧ Below w.heap.size w wr) (fun _ i _ => 2 - (intOf i).toNat)
  case atStart => exact ⟨0, Nat.zero_le _, rfl, ha2, hp, hB2⟩
  case round =>
  clear ha2 hp hB2
  obtain ⟨k, hk, rfl, ha2, hp, hB2⟩ := hrel
  by_cases hlt : k < 2
  · have hki : (k : Int) < 2 := by omega
    obtain ⟨x, hx, hN⟩ : ∃ x, (∀ w, (Instr.index 64 (.agg #[.pointer none, .pointer (some ⟨gz, 0, none⟩)]) (.int .i64 (k : Int))).run Tryz.prog w = .ok x w) ∧ Non wr x := by
      match k, hlt with
      | 0, _ => exact ⟨_, i0 _ _, .inl rfl⟩
      | 1, _ => exact ⟨_, i1 _ _, .inr ⟨gz, rfl, hp⟩⟩
    clear i0 i1
    have a1 : wr.cell? ⟨w.heap.size, 1, none⟩ = some (.int .i64 id) := ha2.cellv 1 rfl
    have a2 : wr.cell? ⟨w.heap.size, 2, none⟩ = some (.int .i64 n) := ha2.cellv 2 rfl
    have a3 : wr.cell? ⟨w.heap.size, 3, none⟩ = some (.bool on) := ha2.cellv 3 rfl
    have a4 : wr.cell? ⟨w.heap.size, 4, none⟩ = some (.bool sm) := ha2.cellv 4 rfl
    have lta := ha2.lt
    go_upto_region 5 with (fail)
    clear hx hki
    -- region 4+2: 0 1 2 3 4 5C 6 7 8 9 10C 11 12 13 14 15 16C 17 18 19 20C 21 22 23C 24 25 26C 27 28 29 30 31 32 33 34 35 36C 37 38 39 40 41 42 43 44 45C 46 47 48 49 50 51 52C 53 54 55 56C 57 58 59 60C 61 62 63 64 65 66C 67 68 69 70C 71 72 73 74 75C 76 77 78 79 80C 81 82 83 84 85 86C 87 88 89 90 91 92C 93 94
    try refine wp_region_noPanic ?_
    refine wp_region_lat (by kernel_rfl) ?_
    (refine lat_now 0 (by rfl) ?_ (by as_aux_lemma => kernel_rfl) (fun _ _ _ h => h) ?_ ?_; rotate_left; (focus (intro wq hSw; have hrd : ∀ b o, b < wr.heap.size → wq.cell? ⟨b, o, none⟩ = wr.cell? ⟨b, o, none⟩ := (fun b o h => Below.cell hSw (p := ⟨b, o, none⟩) h); go_simp; try with_reducible rfl; done)); try simp only [Act.put, List.setIfInBounds_toArray, List.set_cons_zero, List.set_cons_succ])
    (refine lat_now 1 (by rfl) ?_ (by as_aux_lemma => kernel_rfl) (fun _ _ _ h => h) ?_ ?_; rotate_left; (focus (intro wq hSw; have hrd : ∀ b o, b < wr.heap.size → wq.cell? ⟨b, o, none⟩ = wr.cell? ⟨b, o, none⟩ := (fun b o h => Below.cell hSw (p := ⟨b, o, none⟩) h); go_simp; try with_reducible rfl; done)); try simp only [Act.put, List.setIfInBounds_toArray, List.set_cons_zero, List.set_cons_succ])
    (refine lat_now 2 (by rfl) ?_ (by as_aux_lemma => kernel_rfl) (fun _ _ _ h => h) ?_ ?_; rotate_left; (focus (intro wq hSw; have hrd : ∀ b o, b < wr.heap.size → wq.cell? ⟨b, o, none⟩ = wr.cell? ⟨b, o, none⟩ := (fun b o h => Below.cell hSw (p := ⟨b, o, none⟩) h); go_simp; try with_reducible rfl; done)); try simp only [Act.put, List.setIfInBounds_toArray, List.set_cons_zero, List.set_cons_succ])
    (refine lat_now 3 (by rfl) ?_ (by as_aux_lemma => kernel_rfl) (fun _ _ _ h => h) ?_ ?_; rotate_left; (focus (intro wq hSw; have hrd : ∀ b o, b < wr.heap.size → wq.cell? ⟨b, o, none⟩ = wr.cell? ⟨b, o, none⟩ := (fun b o h => Below.cell hSw (p := ⟨b, o, none⟩) h); go_simp; try with_reducible rfl; done)); try simp only [Act.put, List.setIfInBounds_toArray, List.set_cons_zero, List.set_cons_succ])
    (refine lat_now 4 (by rfl) ?_ (by as_aux_lemma => kernel_rfl) (fun _ _ _ h => h) ?_ ?_; rotate_left; (focus (intro wq hSw; have hrd : ∀ b o, b < wr.heap.size → wq.cell? ⟨b, o, none⟩ = wr.cell? ⟨b, o, none⟩ := (fun b o h => Below.cell hSw (p := ⟨b, o, none⟩) h); go_simp; try with_reducible rfl; done)); try simp only [Act.put, List.setIfInBounds_toArray, List.set_cons_zero, List.set_cons_succ])
    (refine lat_late 5 (by rfl) (.bool false) (by as_aux_lemma => kernel_rfl) (fun _ _ _ h => h) (fun wq hSw => ⟨_, _, ?_, vnResult (hN.nx hSw) id on⟩) ?_; focus (go_simp; try with_reducible rfl; done); try simp only [Act.put, List.setIfInBounds_toArray, List.set_cons_zero, List.set_cons_succ])
    (refine lat_now 6 (by rfl) ?_ (by as_aux_lemma => kernel_rfl) (fun _ _ _ h => h) ?_ ?_; rotate_left; (focus (intro wq hSw; have hrd : ∀ b o, b < wr.heap.size → wq.cell? ⟨b, o, none⟩ = wr.cell? ⟨b, o, none⟩ := (fun b o h => Below.cell hSw (p := ⟨b, o, none⟩) h); go_simp; try with_reducible rfl; done)); try simp only [Act.put, List.setIfInBounds_toArray, List.set_cons_zero, List.set_cons_succ])
    (refine lat_now 7 (by rfl) ?_ (by as_aux_lemma => kernel_rfl) (fun _ _ _ h => h) ?_ ?_; rotate_left; (focus (intro wq hSw; have hrd : ∀ b o, b < wr.heap.size → wq.cell? ⟨b, o, none⟩ = wr.cell? ⟨b, o, none⟩ := (fun b o h => Below.cell hSw (p := ⟨b, o, none⟩) h); go_simp; try with_reducible rfl; done)); try simp only [Act.put, List.setIfInBounds_toArray, List.set_cons_zero, List.set_cons_succ])
    (refine lat_now 8 (by rfl) ?_ (by as_aux_lemma => kernel_rfl) (fun _ _ _ h => h) ?_ ?_; rotate_left; (focus (intro wq hSw; have hrd : ∀ b o, b < wr.heap.size → wq.cell? ⟨b, o, none⟩ = wr.cell? ⟨b, o, none⟩ := (fun b o h => Below.cell hSw (p := ⟨b, o, none⟩) h); go_simp; try with_reducible rfl; done)); try simp only [Act.put, List.setIfInBounds_toArray, List.set_cons_zero, List.set_cons_succ])
    (refine lat_now 9 (by rfl) ?_ (by as_aux_lemma => kernel_rfl) (fun _ _ _ h => h) ?_ ?_; rotate_left; (focus (intro wq hSw; have hrd : ∀ b o, b < wr.heap.size → wq.cell? ⟨b, o, none⟩ = wr.cell? ⟨b, o, none⟩ := (fun b o h => Below.cell hSw (p := ⟨b, o, none⟩) h); go_simp; try with_reducible rfl; done)); try simp only [Act.put, List.setIfInBounds_toArray, List.set_cons_zero, List.set_cons_succ])
    (refine lat_late 10 (by rfl) (.bool false) (by as_aux_lemma => kernel_rfl) (fun _ _ _ h => h) (fun wq hSw => ⟨_, _, ?_, vnLost (hN.nx hSw) id⟩) ?_; focus (go_simp; try with_reducible rfl; done); try simp only [Act.put, List.setIfInBounds_toArray, List.set_cons_zero, List.set_cons_succ])
    (refine lat_now 11 (by rfl) ?_ (by as_aux_lemma => kernel_rfl) (fun _ _ _ h => h) ?_ ?_; rotate_left; (focus (intro wq hSw; have hrd : ∀ b o, b < wr.heap.size → wq.cell? ⟨b, o, none⟩ = wr.cell? ⟨b, o, none⟩ := (fun b o h => Below.cell hSw (p := ⟨b, o, none⟩) h); go_simp; try with_reducible rfl; done)); try simp only [Act.put, List.setIfInBounds_toArray, List.set_cons_zero, List.set_cons_succ])
    (refine lat_now 12 (by rfl) ?_ (by as_aux_lemma => kernel_rfl) (fun _ _ _ h => h) ?_ ?_; rotate_left; (focus (intro wq hSw; have hrd : ∀ b o, b < wr.heap.size → wq.cell? ⟨b, o, none⟩ = wr.cell? ⟨b, o, none⟩ := (fun b o h => Below.cell hSw (p := ⟨b, o, none⟩) h); go_simp; try with_reducible rfl; done)); try simp only [Act.put, List.setIfInBounds_toArray, List.set_cons_zero, List.set_cons_succ])
    (refine lat_now 13 (by rfl) ?_ (by as_aux_lemma => kernel_rfl) (fun _ _ _ h => h) ?_ ?_; rotate_left; (focus (intro wq hSw; have hrd : ∀ b o, b < wr.heap.size → wq.cell? ⟨b, o, none⟩ = wr.cell? ⟨b, o, none⟩ := (fun b o h => Below.cell hSw (p := ⟨b, o, none⟩) h); go_simp; try with_reducible rfl; done)); try simp only [Act.put, List.setIfInBounds_toArray, List.set_cons_zero, List.set_cons_succ])
    (refine lat_now 14 (by rfl) ?_ (by as_aux_lemma => kernel_rfl) (fun _ _ _ h => h) ?_ ?_; rotate_left; (focus (intro wq hSw; have hrd : ∀ b o, b < wr.heap.size → wq.cell? ⟨b, o, none⟩ = wr.cell? ⟨b, o, none⟩ := (fun b o h => Below.cell hSw (p := ⟨b, o, none⟩) h); go_simp; try with_reducible rfl; done)); try simp only [Act.put, List.setIfInBounds_toArray, List.set_cons_zero, List.set_cons_succ])
    (refine lat_now 15 (by rfl) ?_ (by as_aux_lemma => kernel_rfl) (fun _ _ _ h => h) ?_ ?_; rotate_left; (focus (intro wq hSw; have hrd : ∀ b o, b < wr.heap.size → wq.cell? ⟨b, o, none⟩ = wr.cell? ⟨b, o, none⟩ := (fun b o h => Below.cell hSw (p := ⟨b, o, none⟩) h); go_simp; try with_reducible rfl; done)); try simp only [Act.put, List.setIfInBounds_toArray, List.set_cons_zero, List.set_cons_succ])
    (refine lat_now 17 (by rfl) ?_ (by as_aux_lemma => kernel_rfl) (fun _ _ _ h => h) ?_ ?_; rotate_left; (focus (intro wq hSw; have hrd : ∀ b o, b < wr.heap.size → wq.cell? ⟨b, o, none⟩ = wr.cell? ⟨b, o, none⟩ := (fun b o h => Below.cell hSw (p := ⟨b, o, none⟩) h); go_simp; try with_reducible rfl; done)); try simp only [Act.put, List.setIfInBounds_toArray, List.set_cons_zero, List.set_cons_succ])
    (refine lat_now 18 (by rfl) ?_ (by as_aux_lemma => kernel_rfl) (fun _ _ _ h => h) ?_ ?_; rotate_left; (focus (intro wq hSw; have hrd : ∀ b o, b < wr.heap.size → wq.cell? ⟨b, o, none⟩ = wr.cell? ⟨b, o, none⟩ := (fun b o h => Below.cell hSw (p := ⟨b, o, none⟩) h); go_simp; try with_reducible rfl; done)); try simp only [Act.put, List.setIfInBounds_toArray, List.set_cons_zero, List.set_cons_succ])
    (refine lat_now 19 (by rfl) ?_ (by as_aux_lemma => kernel_rfl) (fun _ _ _ h => h) ?_ ?_; rotate_left; (focus (intro wq hSw; have hrd : ∀ b o, b < wr.heap.size → wq.cell? ⟨b, o, none⟩ = wr.cell? ⟨b, o, none⟩ := (fun b o h => Below.cell hSw (p := ⟨b, o, none⟩) h); go_simp; try with_reducible rfl; done)); try simp only [Act.put, List.setIfInBounds_toArray, List.set_cons_zero, List.set_cons_succ])
    (refine lat_now 22 (by rfl) ?_ (by as_aux_lemma => kernel_rfl) (fun _ _ _ h => h) ?_ ?_; rotate_left; (focus (intro wq hSw; have hrd : ∀ b o, b < wr.heap.size → wq.cell? ⟨b, o, none⟩ = wr.cell? ⟨b, o, none⟩ := (fun b o h => Below.cell hSw (p := ⟨b, o, none⟩) h); go_simp; try with_reducible rfl; done)); try simp only [Act.put, List.setIfInBounds_toArray, List.set_cons_zero, List.set_cons_succ])
    (refine lat_now 25 (by rfl) ?_ (by as_aux_lemma => kernel_rfl) (fun _ _ _ h => h) ?_ ?_; rotate_left; (focus (intro wq hSw; have hrd : ∀ b o, b < wr.heap.size → wq.cell? ⟨b, o, none⟩ = wr.cell? ⟨b, o, none⟩ := (fun b o h => Below.cell hSw (p := ⟨b, o, none⟩) h); go_simp; try with_reducible rfl; done)); try simp only [Act.put, List.setIfInBounds_toArray, List.set_cons_zero, List.set_cons_succ])
    (refine lat_late 16 (by rfl) (.int .i64 0) (by as_aux_lemma => kernel_rfl) (fun _ _ _ h => h) (fun wq hSw => ⟨_, _, ?_, vnTick (hN.nx hSw) sm⟩) ?_; focus (go_simp; try with_reducible rfl; done); try simp only [Act.put, List.setIfInBounds_toArray, List.set_cons_zero, List.set_cons_succ])
    (refine lat_late 20 (by rfl) (.int .i64 0) (by as_aux_lemma => kernel_rfl) (fun _ _ _ h => h) (fun wq hSw => ⟨_, _, ?_, vnLook (hN.nx hSw) sm⟩) ?_; focus (go_simp; try with_reducible rfl; done); try simp only [Act.put, List.setIfInBounds_toArray, List.set_cons_zero, List.set_cons_succ])
    (refine lat_now 21 (by rfl) ?_ (by as_aux_lemma => kernel_rfl) (fun _ _ _ h => h) ?_ ?_; rotate_left; (focus (intro wq hSw; have hrd : ∀ b o, b < wr.heap.size → wq.cell? ⟨b, o, none⟩ = wr.cell? ⟨b, o, none⟩ := (fun b o h => Below.cell hSw (p := ⟨b, o, none⟩) h); go_simp; try with_reducible rfl; done)); try simp only [Act.put, List.setIfInBounds_toArray, List.set_cons_zero, List.set_cons_succ])
    (refine lat_late 23 (by rfl) (.int .i64 0) (by as_aux_lemma => kernel_rfl) (fun _ _ _ h => h) (fun wq hSw => ⟨_, _, ?_, vnLevel (hN.nx hSw)⟩) ?_; focus (go_simp; try with_reducible rfl; done); try simp only [Act.put, List.setIfInBounds_toArray, List.set_cons_zero, List.set_cons_succ])
    (refine lat_now 24 (by rfl) ?_ (by as_aux_lemma => kernel_rfl) (fun _ _ _ h => h) ?_ ?_; rotate_left; (focus (intro wq hSw; have hrd : ∀ b o, b < wr.heap.size → wq.cell? ⟨b, o, none⟩ = wr.cell? ⟨b, o, none⟩ := (fun b o h => Below.cell hSw (p := ⟨b, o, none⟩) h); go_simp; try with_reducible rfl; done)); try simp only [Act.put, List.setIfInBounds_toArray, List.set_cons_zero, List.set_cons_succ])
    (refine lat_late 26 (by rfl) (.int .i64 0) (by as_aux_lemma => kernel_rfl) (fun _ _ _ h => h) (fun wq hSw => ⟨_, _, ?_, vnPenalty (hN.nx hSw)⟩) ?_; focus (go_simp; try with_reducible rfl; done); try simp only [Act.put, List.setIfInBounds_toArray, List.set_cons_zero, List.set_cons_succ])
    (refine lat_now 27 (by rfl) ?_ (by as_aux_lemma => kernel_rfl) (fun _ _ _ h => h) ?_ ?_; rotate_left; (focus (intro wq hSw; have hrd : ∀ b o, b < wr.heap.size → wq.cell? ⟨b, o, none⟩ = wr.cell? ⟨b, o, none⟩ := (fun b o h => Below.cell hSw (p := ⟨b, o, none⟩) h); go_simp; try with_reducible rfl; done)); try simp only [Act.put, List.setIfInBounds_toArray, List.set_cons_zero, List.set_cons_succ])
    (refine lat_now 28 (by rfl) ?_ (by as_aux_lemma => kernel_rfl) (fun _ _ _ h => h) ?_ ?_; rotate_left; (focus (intro wq hSw; have hrd : ∀ b o, b < wr.heap.size → wq.cell? ⟨b, o, none⟩ = wr.cell? ⟨b, o, none⟩ := (fun b o h => Below.cell hSw (p := ⟨b, o, none⟩) h); go_simp; try with_reducible rfl; done)); try simp only [Act.put, List.setIfInBounds_toArray, List.set_cons_zero, List.set_cons_succ])
    (refine lat_now 29 (by rfl) ?_ (by as_aux_lemma => kernel_rfl) (fun _ _ _ h => h) ?_ ?_; rotate_left; (focus (intro wq hSw; have hrd : ∀ b o, b < wr.heap.size → wq.cell? ⟨b, o, none⟩ = wr.cell? ⟨b, o, none⟩ := (fun b o h => Below.cell hSw (p := ⟨b, o, none⟩) h); go_simp; try with_reducible rfl; done)); try simp only [Act.put, List.setIfInBounds_toArray, List.set_cons_zero, List.set_cons_succ])
    (refine lat_now 30 (by rfl) ?_ (by as_aux_lemma => kernel_rfl) (fun _ _ _ h => h) ?_ ?_; rotate_left; (focus (intro wq hSw; have hrd : ∀ b o, b < wr.heap.size → wq.cell? ⟨b, o, none⟩ = wr.cell? ⟨b, o, none⟩ := (fun b o h => Below.cell hSw (p := ⟨b, o, none⟩) h); go_simp; try with_reducible rfl; done)); try simp only [Act.put, List.setIfInBounds_toArray, List.set_cons_zero, List.set_cons_succ])
    (refine lat_now 31 (by rfl) ?_ (by as_aux_lemma => kernel_rfl) (fun _ _ _ h => h) ?_ ?_; rotate_left; (focus (intro wq hSw; have hrd : ∀ b o, b < wr.heap.size → wq.cell? ⟨b, o, none⟩ = wr.cell? ⟨b, o, none⟩ := (fun b o h => Below.cell hSw (p := ⟨b, o, none⟩) h); go_simp; try with_reducible rfl; done)); try simp only [Act.put, List.setIfInBounds_toArray, List.set_cons_zero, List.set_cons_succ])
    (refine lat_now 32 (by rfl) ?_ (by as_aux_lemma => kernel_rfl) (fun _ _ _ h => h) ?_ ?_; rotate_left; (focus (intro wq hSw; have hrd : ∀ b o, b < wr.heap.size → wq.cell? ⟨b, o, none⟩ = wr.cell? ⟨b, o, none⟩ := (fun b o h => Below.cell hSw (p := ⟨b, o, none⟩) h); go_simp; try with_reducible rfl; done)); try simp only [Act.put, List.setIfInBounds_toArray, List.set_cons_zero, List.set_cons_succ])
    (refine lat_now 33 (by rfl) ?_ (by as_aux_lemma => kernel_rfl) (fun _ _ _ h => h) ?_ ?_; rotate_left; (focus (intro wq hSw; have hrd : ∀ b o, b < wr.heap.size → wq.cell? ⟨b, o, none⟩ = wr.cell? ⟨b, o, none⟩ := (fun b o h => Below.cell hSw (p := ⟨b, o, none⟩) h); go_simp; try with_reducible rfl; done)); try simp only [Act.put, List.setIfInBounds_toArray, List.set_cons_zero, List.set_cons_succ])
    (refine lat_now 34 (by rfl) ?_ (by as_aux_lemma => kernel_rfl) (fun _ _ _ h => h) ?_ ?_; rotate_left; (focus (intro wq hSw; have hrd : ∀ b o, b < wr.heap.size → wq.cell? ⟨b, o, none⟩ = wr.cell? ⟨b, o, none⟩ := (fun b o h => Below.cell hSw (p := ⟨b, o, none⟩) h); go_simp; try with_reducible rfl; done)); try simp only [Act.put, List.setIfInBounds_toArray, List.set_cons_zero, List.set_cons_succ])
    (refine lat_now 35 (by rfl) ?_ (by as_aux_lemma => kernel_rfl) (fun _ _ _ h => h) ?_ ?_; rotate_left; (focus (intro wq hSw; have hrd : ∀ b o, b < wr.heap.size → wq.cell? ⟨b, o, none⟩ = wr.cell? ⟨b, o, none⟩ := (fun b o h => Below.cell hSw (p := ⟨b, o, none⟩) h); go_simp; try with_reducible rfl; done)); try simp only [Act.put, List.setIfInBounds_toArray, List.set_cons_zero, List.set_cons_succ])
    (refine lat_late 36 (by rfl) (.int .i64 1) (by as_aux_lemma => kernel_rfl) (fun _ _ _ h => h) (fun wq hSw => ⟨_, _, ?_, vnDrain (hN.nx hSw) id on⟩) ?_; focus (go_simp; try with_reducible rfl; done); try simp only [Act.put, List.setIfInBounds_toArray, List.set_cons_zero, List.set_cons_succ])
    (refine lat_now 37 (by rfl) ?_ (by as_aux_lemma => kernel_rfl) (fun _ _ _ h => h) ?_ ?_; rotate_left; (focus (intro wq hSw; have hrd : ∀ b o, b < wr.heap.size → wq.cell? ⟨b, o, none⟩ = wr.cell? ⟨b, o, none⟩ := (fun b o h => Below.cell hSw (p := ⟨b, o, none⟩) h); go_simp; try with_reducible rfl; done)); try simp only [Act.put, List.setIfInBounds_toArray, List.set_cons_zero, List.set_cons_succ])
    (refine lat_now 38 (by rfl) ?_ (by as_aux_lemma => kernel_rfl) (fun _ _ _ h => h) ?_ ?_; rotate_left; (focus (intro wq hSw; have hrd : ∀ b o, b < wr.heap.size → wq.cell? ⟨b, o, none⟩ = wr.cell? ⟨b, o, none⟩ := (fun b o h => Below.cell hSw (p := ⟨b, o, none⟩) h); go_simp; try with_reducible rfl; done)); try simp only [Act.put, List.setIfInBounds_toArray, List.set_cons_zero, List.set_cons_succ])
    (refine lat_now 39 (by rfl) ?_ (by as_aux_lemma => kernel_rfl) (fun _ _ _ h => h) ?_ ?_; rotate_left; (focus (intro wq hSw; have hrd : ∀ b o, b < wr.heap.size → wq.cell? ⟨b, o, none⟩ = wr.cell? ⟨b, o, none⟩ := (fun b o h => Below.cell hSw (p := ⟨b, o, none⟩) h); go_simp; try with_reducible rfl; done)); try simp only [Act.put, List.setIfInBounds_toArray, List.set_cons_zero, List.set_cons_succ])
    (refine lat_now 40 (by rfl) ?_ (by as_aux_lemma => kernel_rfl) (fun _ _ _ h => h) ?_ ?_; rotate_left; (focus (intro wq hSw; have hrd : ∀ b o, b < wr.heap.size → wq.cell? ⟨b, o, none⟩ = wr.cell? ⟨b, o, none⟩ := (fun b o h => Below.cell hSw (p := ⟨b, o, none⟩) h); go_simp; try with_reducible rfl; done)); try simp only [Act.put, List.setIfInBounds_toArray, List.set_cons_zero, List.set_cons_succ])
    (refine lat_now 41 (by rfl) ?_ (by as_aux_lemma => kernel_rfl) (fun _ _ _ h => h) ?_ ?_; rotate_left; (focus (intro wq hSw; have hrd : ∀ b o, b < wr.heap.size → wq.cell? ⟨b, o, none⟩ = wr.cell? ⟨b, o, none⟩ := (fun b o h => Below.cell hSw (p := ⟨b, o, none⟩) h); go_simp; try with_reducible rfl; done)); try simp only [Act.put, List.setIfInBounds_toArray, List.set_cons_zero, List.set_cons_succ])
    (refine lat_now 42 (by rfl) ?_ (by as_aux_lemma => kernel_rfl) (fun _ _ _ h => h) ?_ ?_; rotate_left; (focus (intro wq hSw; have hrd : ∀ b o, b < wr.heap.size → wq.cell? ⟨b, o, none⟩ = wr.cell? ⟨b, o, none⟩ := (fun b o h => Below.cell hSw (p := ⟨b, o, none⟩) h); go_simp; try with_reducible rfl; done)); try simp only [Act.put, List.setIfInBounds_toArray, List.set_cons_zero, List.set_cons_succ])
    (refine lat_now 43 (by rfl) ?_ (by as_aux_lemma => kernel_rfl) (fun _ _ _ h => h) ?_ ?_; rotate_left; (focus (intro wq hSw; have hrd : ∀ b o, b < wr.heap.size → wq.cell? ⟨b, o, none⟩ = wr.cell? ⟨b, o, none⟩ := (fun b o h => Below.cell hSw (p := ⟨b, o, none⟩) h); go_simp; try with_reducible rfl; done)); try simp only [Act.put, List.setIfInBounds_toArray, List.set_cons_zero, List.set_cons_succ])
    (refine lat_now 44 (by rfl) ?_ (by as_aux_lemma => kernel_rfl) (fun _ _ _ h => h) ?_ ?_; rotate_left; (focus (intro wq hSw; have hrd : ∀ b o, b < wr.heap.size → wq.cell? ⟨b, o, none⟩ = wr.cell? ⟨b, o, none⟩ := (fun b o h => Below.cell hSw (p := ⟨b, o, none⟩) h); go_simp; try with_reducible rfl; done)); try simp only [Act.put, List.setIfInBounds_toArray, List.set_cons_zero, List.set_cons_succ])
    (refine lat_late 45 (by rfl) (.int .i64 1) (by as_aux_lemma => kernel_rfl) (fun _ _ _ h => h) (fun wq hSw => ⟨_, _, ?_, vnWeigh (hN.nx hSw) id n⟩) ?_; focus (go_simp; try with_reducible rfl; done); try simp only [Act.put, List.setIfInBounds_toArray, List.set_cons_zero, List.set_cons_succ])
    (refine lat_now 46 (by rfl) ?_ (by as_aux_lemma => kernel_rfl) (fun _ _ _ h => h) ?_ ?_; rotate_left; (focus (intro wq hSw; have hrd : ∀ b o, b < wr.heap.size → wq.cell? ⟨b, o, none⟩ = wr.cell? ⟨b, o, none⟩ := (fun b o h => Below.cell hSw (p := ⟨b, o, none⟩) h); go_simp; try with_reducible rfl; done)); try simp only [Act.put, List.setIfInBounds_toArray, List.set_cons_zero, List.set_cons_succ])
    (refine lat_now 47 (by rfl) ?_ (by as_aux_lemma => kernel_rfl) (fun _ _ _ h => h) ?_ ?_; rotate_left; (focus (intro wq hSw; have hrd : ∀ b o, b < wr.heap.size → wq.cell? ⟨b, o, none⟩ = wr.cell? ⟨b, o, none⟩ := (fun b o h => Below.cell hSw (p := ⟨b, o, none⟩) h); go_simp; try with_reducible rfl; done)); try simp only [Act.put, List.setIfInBounds_toArray, List.set_cons_zero, List.set_cons_succ])
    (refine lat_now 48 (by rfl) ?_ (by as_aux_lemma => kernel_rfl) (fun _ _ _ h => h) ?_ ?_; rotate_left; (focus (intro wq hSw; have hrd : ∀ b o, b < wr.heap.size → wq.cell? ⟨b, o, none⟩ = wr.cell? ⟨b, o, none⟩ := (fun b o h => Below.cell hSw (p := ⟨b, o, none⟩) h); go_simp; try with_reducible rfl; done)); try simp only [Act.put, List.setIfInBounds_toArray, List.set_cons_zero, List.set_cons_succ])
    (refine lat_now 49 (by rfl) ?_ (by as_aux_lemma => kernel_rfl) (fun _ _ _ h => h) ?_ ?_; rotate_left; (focus (intro wq hSw; have hrd : ∀ b o, b < wr.heap.size → wq.cell? ⟨b, o, none⟩ = wr.cell? ⟨b, o, none⟩ := (fun b o h => Below.cell hSw (p := ⟨b, o, none⟩) h); go_simp; try with_reducible rfl; done)); try simp only [Act.put, List.setIfInBounds_toArray, List.set_cons_zero, List.set_cons_succ])
    (refine lat_now 50 (by rfl) ?_ (by as_aux_lemma => kernel_rfl) (fun _ _ _ h => h) ?_ ?_; rotate_left; (focus (intro wq hSw; have hrd : ∀ b o, b < wr.heap.size → wq.cell? ⟨b, o, none⟩ = wr.cell? ⟨b, o, none⟩ := (fun b o h => Below.cell hSw (p := ⟨b, o, none⟩) h); go_simp; try with_reducible rfl; done)); try simp only [Act.put, List.setIfInBounds_toArray, List.set_cons_zero, List.set_cons_succ])
    (refine lat_now 51 (by rfl) ?_ (by as_aux_lemma => kernel_rfl) (fun _ _ _ h => h) ?_ ?_; rotate_left; (focus (intro wq hSw; have hrd : ∀ b o, b < wr.heap.size → wq.cell? ⟨b, o, none⟩ = wr.cell? ⟨b, o, none⟩ := (fun b o h => Below.cell hSw (p := ⟨b, o, none⟩) h); go_simp; try with_reducible rfl; done)); try simp only [Act.put, List.setIfInBounds_toArray, List.set_cons_zero, List.set_cons_succ])
    (refine lat_late 52 (by rfl) (.bool false) (by as_aux_lemma => kernel_rfl) (fun _ _ _ h => h) (fun wq hSw => ⟨_, _, ?_, vnEnable (hN.nx hSw) on⟩) ?_; focus (go_simp; try with_reducible rfl; done); try simp only [Act.put, List.setIfInBounds_toArray, List.set_cons_zero, List.set_cons_succ])
    (refine lat_now 53 (by rfl) ?_ (by as_aux_lemma => kernel_rfl) (fun _ _ _ h => h) ?_ ?_; rotate_left; (focus (intro wq hSw; have hrd : ∀ b o, b < wr.heap.size → wq.cell? ⟨b, o, none⟩ = wr.cell? ⟨b, o, none⟩ := (fun b o h => Below.cell hSw (p := ⟨b, o, none⟩) h); go_simp; try with_reducible rfl; done)); try simp only [Act.put, List.setIfInBounds_toArray, List.set_cons_zero, List.set_cons_succ])
    (refine lat_now 54 (by rfl) ?_ (by as_aux_lemma => kernel_rfl) (fun _ _ _ h => h) ?_ ?_; rotate_left; (focus (intro wq hSw; have hrd : ∀ b o, b < wr.heap.size → wq.cell? ⟨b, o, none⟩ = wr.cell? ⟨b, o, none⟩ := (fun b o h => Below.cell hSw (p := ⟨b, o, none⟩) h); go_simp; try with_reducible rfl; done)); try simp only [Act.put, List.setIfInBounds_toArray, List.set_cons_zero, List.set_cons_succ])
    (refine lat_now 55 (by rfl) ?_ (by as_aux_lemma => kernel_rfl) (fun _ _ _ h => h) ?_ ?_; rotate_left; (focus (intro wq hSw; have hrd : ∀ b o, b < wr.heap.size → wq.cell? ⟨b, o, none⟩ = wr.cell? ⟨b, o, none⟩ := (fun b o h => Below.cell hSw (p := ⟨b, o, none⟩) h); go_simp; try with_reducible rfl; done)); try simp only [Act.put, List.setIfInBounds_toArray, List.set_cons_zero, List.set_cons_succ])
    (refine lat_late 56 (by rfl) (.bool false) (by as_aux_lemma => kernel_rfl) (fun _ _ _ h => h) (fun wq hSw => ⟨_, _, ?_, vnEnabled (hN.nx hSw)⟩) ?_; focus (go_simp; try with_reducible rfl; done); try simp only [Act.put, List.setIfInBounds_toArray, List.set_cons_zero, List.set_cons_succ])
    (refine lat_now 57 (by rfl) ?_ (by as_aux_lemma => kernel_rfl) (fun _ _ _ h => h) ?_ ?_; rotate_left; (focus (intro wq hSw; have hrd : ∀ b o, b < wr.heap.size → wq.cell? ⟨b, o, none⟩ = wr.cell? ⟨b, o, none⟩ := (fun b o h => Below.cell hSw (p := ⟨b, o, none⟩) h); go_simp; try with_reducible rfl; done)); try simp only [Act.put, List.setIfInBounds_toArray, List.set_cons_zero, List.set_cons_succ])
    (refine lat_now 58 (by rfl) ?_ (by as_aux_lemma => kernel_rfl) (fun _ _ _ h => h) ?_ ?_; rotate_left; (focus (intro wq hSw; have hrd : ∀ b o, b < wr.heap.size → wq.cell? ⟨b, o, none⟩ = wr.cell? ⟨b, o, none⟩ := (fun b o h => Below.cell hSw (p := ⟨b, o, none⟩) h); go_simp; try with_reducible rfl; done)); try simp only [Act.put, List.setIfInBounds_toArray, List.set_cons_zero, List.set_cons_succ])
    (refine lat_now 59 (by rfl) ?_ (by as_aux_lemma => kernel_rfl) (fun _ _ _ h => h) ?_ ?_; rotate_left; (focus (intro wq hSw; have hrd : ∀ b o, b < wr.heap.size → wq.cell? ⟨b, o, none⟩ = wr.cell? ⟨b, o, none⟩ := (fun b o h => Below.cell hSw (p := ⟨b, o, none⟩) h); go_simp; try with_reducible rfl; done)); try simp only [Act.put, List.setIfInBounds_toArray, List.set_cons_zero, List.set_cons_succ])
    (refine lat_late 60 (by rfl) (.bool false) (by as_aux_lemma => kernel_rfl) (fun _ _ _ h => h) (fun wq hSw => ⟨_, _, ?_, vnHeld (hN.nx hSw)⟩) ?_; focus (go_simp; try with_reducible rfl; done); try simp only [Act.put, List.setIfInBounds_toArray, List.set_cons_zero, List.set_cons_succ])
    (refine lat_now 61 (by rfl) ?_ (by as_aux_lemma => kernel_rfl) (fun _ _ _ h => h) ?_ ?_; rotate_left; (focus (intro wq hSw; have hrd : ∀ b o, b < wr.heap.size → wq.cell? ⟨b, o, none⟩ = wr.cell? ⟨b, o, none⟩ := (fun b o h => Below.cell hSw (p := ⟨b, o, none⟩) h); go_simp; try with_reducible rfl; done)); try simp only [Act.put, List.setIfInBounds_toArray, List.set_cons_zero, List.set_cons_succ])
    (refine lat_now 62 (by rfl) ?_ (by as_aux_lemma => kernel_rfl) (fun _ _ _ h => h) ?_ ?_; rotate_left; (focus (intro wq hSw; have hrd : ∀ b o, b < wr.heap.size → wq.cell? ⟨b, o, none⟩ = wr.cell? ⟨b, o, none⟩ := (fun b o h => Below.cell hSw (p := ⟨b, o, none⟩) h); go_simp; try with_reducible rfl; done)); try simp only [Act.put, List.setIfInBounds_toArray, List.set_cons_zero, List.set_cons_succ])
    (refine lat_now 63 (by rfl) ?_ (by as_aux_lemma => kernel_rfl) (fun _ _ _ h => h) ?_ ?_; rotate_left; (focus (intro wq hSw; have hrd : ∀ b o, b < wr.heap.size → wq.cell? ⟨b, o, none⟩ = wr.cell? ⟨b, o, none⟩ := (fun b o h => Below.cell hSw (p := ⟨b, o, none⟩) h); go_simp; try with_reducible rfl; done)); try simp only [Act.put, List.setIfInBounds_toArray, List.set_cons_zero, List.set_cons_succ])
    (refine lat_now 64 (by rfl) ?_ (by as_aux_lemma => kernel_rfl) (fun _ _ _ h => h) ?_ ?_; rotate_left; (focus (intro wq hSw; have hrd : ∀ b o, b < wr.heap.size → wq.cell? ⟨b, o, none⟩ = wr.cell? ⟨b, o, none⟩ := (fun b o h => Below.cell hSw (p := ⟨b, o, none⟩) h); go_simp; try with_reducible rfl; done)); try simp only [Act.put, List.setIfInBounds_toArray, List.set_cons_zero, List.set_cons_succ])
    (refine lat_now 65 (by rfl) ?_ (by as_aux_lemma => kernel_rfl) (fun _ _ _ h => h) ?_ ?_; rotate_left; (focus (intro wq hSw; have hrd : ∀ b o, b < wr.heap.size → wq.cell? ⟨b, o, none⟩ = wr.cell? ⟨b, o, none⟩ := (fun b o h => Below.cell hSw (p := ⟨b, o, none⟩) h); go_simp; try with_reducible rfl; done)); try simp only [Act.put, List.setIfInBounds_toArray, List.set_cons_zero, List.set_cons_succ])
    (refine lat_late 66 (by rfl) (.bool false) (by as_aux_lemma => kernel_rfl) (fun _ _ _ h => h) (fun wq hSw => ⟨_, _, ?_, vnServable (hN.nx hSw) sm⟩) ?_; focus (go_simp; try with_reducible rfl; done); try simp only [Act.put, List.setIfInBounds_toArray, List.set_cons_zero, List.set_cons_succ])
    (refine lat_now 67 (by rfl) ?_ (by as_aux_lemma => kernel_rfl) (fun _ _ _ h => h) ?_ ?_; rotate_left; (focus (intro wq hSw; have hrd : ∀ b o, b < wr.heap.size → wq.cell? ⟨b, o, none⟩ = wr.cell? ⟨b, o, none⟩ := (fun b o h => Below.cell hSw (p := ⟨b, o, none⟩) h); go_simp; try with_reducible rfl; done)); try simp only [Act.put, List.setIfInBounds_toArray, List.set_cons_zero, List.set_cons_succ])
    (refine lat_now 68 (by rfl) ?_ (by as_aux_lemma => kernel_rfl) (fun _ _ _ h => h) ?_ ?_; rotate_left; (focus (intro wq hSw; have hrd : ∀ b o, b < wr.heap.size → wq.cell? ⟨b, o, none⟩ = wr.cell? ⟨b, o, none⟩ := (fun b o h => Below.cell hSw (p := ⟨b, o, none⟩) h); go_simp; try with_reducible rfl; done)); try simp only [Act.put, List.setIfInBounds_toArray, List.set_cons_zero, List.set_cons_succ])
    (refine lat_now 69 (by rfl) ?_ (by as_aux_lemma => kernel_rfl) (fun _ _ _ h => h) ?_ ?_; rotate_left; (focus (intro wq hSw; have hrd : ∀ b o, b < wr.heap.size → wq.cell? ⟨b, o, none⟩ = wr.cell? ⟨b, o, none⟩ := (fun b o h => Below.cell hSw (p := ⟨b, o, none⟩) h); go_simp; try with_reducible rfl; done)); try simp only [Act.put, List.setIfInBounds_toArray, List.set_cons_zero, List.set_cons_succ])
    (refine lat_late 70 (by rfl) (.pointer none) (by as_aux_lemma => kernel_rfl) (fun _ _ _ h => h) (fun wq hSw => ⟨_, _, ?_, vnPool (hN.nx hSw)⟩) ?_; focus (go_simp; try with_reducible rfl; done); try simp only [Act.put, List.setIfInBounds_toArray, List.set_cons_zero, List.set_cons_succ])
    (refine lat_now 71 (by rfl) ?_ (by as_aux_lemma => kernel_rfl) (fun _ _ _ h => h) ?_ ?_; rotate_left; (focus (intro wq hSw; have hrd : ∀ b o, b < wr.heap.size → wq.cell? ⟨b, o, none⟩ = wr.cell? ⟨b, o, none⟩ := (fun b o h => Below.cell hSw (p := ⟨b, o, none⟩) h); go_simp; try with_reducible rfl; done)); try simp only [Act.put, List.setIfInBounds_toArray, List.set_cons_zero, List.set_cons_succ])
    (refine lat_now 72 (by rfl) ?_ (by as_aux_lemma => kernel_rfl) (fun _ _ _ h => h) ?_ ?_; rotate_left; (focus (intro wq hSw; have hrd : ∀ b o, b < wr.heap.size → wq.cell? ⟨b, o, none⟩ = wr.cell? ⟨b, o, none⟩ := (fun b o h => Below.cell hSw (p := ⟨b, o, none⟩) h); go_simp; try with_reducible rfl; done)); try simp only [Act.put, List.setIfInBounds_toArray, List.set_cons_zero, List.set_cons_succ])
    (refine lat_now 73 (by rfl) ?_ (by as_aux_lemma => kernel_rfl) (fun _ _ _ h => h) ?_ ?_; rotate_left; (focus (intro wq hSw; have hrd : ∀ b o, b < wr.heap.size → wq.cell? ⟨b, o, none⟩ = wr.cell? ⟨b, o, none⟩ := (fun b o h => Below.cell hSw (p := ⟨b, o, none⟩) h); go_simp; try with_reducible rfl; done)); try simp only [Act.put, List.setIfInBounds_toArray, List.set_cons_zero, List.set_cons_succ])
    (refine lat_now 74 (by rfl) ?_ (by as_aux_lemma => kernel_rfl) (fun _ _ _ h => h) ?_ ?_; rotate_left; (focus (intro wq hSw; have hrd : ∀ b o, b < wr.heap.size → wq.cell? ⟨b, o, none⟩ = wr.cell? ⟨b, o, none⟩ := (fun b o h => Below.cell hSw (p := ⟨b, o, none⟩) h); go_simp; try with_reducible rfl; done)); try simp only [Act.put, List.setIfInBounds_toArray, List.set_cons_zero, List.set_cons_succ])
    (refine lat_late 75 (by rfl) (.pointer none) (by as_aux_lemma => kernel_rfl) (fun _ _ _ h => h) (fun wq hSw => ⟨_, _, ?_, vnFlows (hN.nx hSw)⟩) ?_; focus (go_simp; try with_reducible rfl; done); try simp only [Act.put, List.setIfInBounds_toArray, List.set_cons_zero, List.set_cons_succ])
    (refine lat_now 76 (by rfl) ?_ (by as_aux_lemma => kernel_rfl) (fun _ _ _ h => h) ?_ ?_; rotate_left; (focus (intro wq hSw; have hrd : ∀ b o, b < wr.heap.size → wq.cell? ⟨b, o, none⟩ = wr.cell? ⟨b, o, none⟩ := (fun b o h => Below.cell hSw (p := ⟨b, o, none⟩) h); go_simp; try with_reducible rfl; done)); try simp only [Act.put, List.setIfInBounds_toArray, List.set_cons_zero, List.set_cons_succ])
    (refine lat_now 77 (by rfl) ?_ (by as_aux_lemma => kernel_rfl) (fun _ _ _ h => h) ?_ ?_; rotate_left; (focus (intro wq hSw; have hrd : ∀ b o, b < wr.heap.size → wq.cell? ⟨b, o, none⟩ = wr.cell? ⟨b, o, none⟩ := (fun b o h => Below.cell hSw (p := ⟨b, o, none⟩) h); go_simp; try with_reducible rfl; done)); try simp only [Act.put, List.setIfInBounds_toArray, List.set_cons_zero, List.set_cons_succ])
    (refine lat_now 78 (by rfl) ?_ (by as_aux_lemma => kernel_rfl) (fun _ _ _ h => h) ?_ ?_; rotate_left; (focus (intro wq hSw; have hrd : ∀ b o, b < wr.heap.size → wq.cell? ⟨b, o, none⟩ = wr.cell? ⟨b, o, none⟩ := (fun b o h => Below.cell hSw (p := ⟨b, o, none⟩) h); go_simp; try with_reducible rfl; done)); try simp only [Act.put, List.setIfInBounds_toArray, List.set_cons_zero, List.set_cons_succ])
    (refine lat_now 79 (by rfl) ?_ (by as_aux_lemma => kernel_rfl) (fun _ _ _ h => h) ?_ ?_; rotate_left; (focus (intro wq hSw; have hrd : ∀ b o, b < wr.heap.size → wq.cell? ⟨b, o, none⟩ = wr.cell? ⟨b, o, none⟩ := (fun b o h => Below.cell hSw (p := ⟨b, o, none⟩) h); go_simp; try with_reducible rfl; done)); try simp only [Act.put, List.setIfInBounds_toArray, List.set_cons_zero, List.set_cons_succ])
    (refine lat_now 81 (by rfl) ?_ (by as_aux_lemma => kernel_rfl) (fun _ _ _ h => h) ?_ ?_; rotate_left; (focus (intro wq hSw; have hrd : ∀ b o, b < wr.heap.size → wq.cell? ⟨b, o, none⟩ = wr.cell? ⟨b, o, none⟩ := (fun b o h => Below.cell hSw (p := ⟨b, o, none⟩) h); go_simp; try with_reducible rfl; done)); try simp only [Act.put, List.setIfInBounds_toArray, List.set_cons_zero, List.set_cons_succ])
    (refine lat_late 80 (by rfl) (.agg #[.int .u32 0, .int .i64 0]) (by as_aux_lemma => kernel_rfl) (fun _ _ _ h => h) (fun wq hSw => ⟨_, _, ?_, vnPrefix (hN.nx hSw)⟩) ?_; focus (go_simp; try with_reducible rfl; done); try simp only [Act.put, List.setIfInBounds_toArray, List.set_cons_zero, List.set_cons_succ])
    (refine lat_now 82 (by rfl) ?_ (by as_aux_lemma => kernel_rfl) (fun _ _ _ h => h) ?_ ?_; rotate_left; (focus (intro wq hSw; have hrd : ∀ b o, b < wr.heap.size → wq.cell? ⟨b, o, none⟩ = wr.cell? ⟨b, o, none⟩ := (fun b o h => Below.cell hSw (p := ⟨b, o, none⟩) h); go_simp; try with_reducible rfl; done)); try simp only [Act.put, List.setIfInBounds_toArray, List.set_cons_zero, List.set_cons_succ])
    (refine lat_now 83 (by rfl) ?_ (by as_aux_lemma => kernel_rfl) (fun _ _ _ h => h) ?_ ?_; rotate_left; (focus (intro wq hSw; have hrd : ∀ b o, b < wr.heap.size → wq.cell? ⟨b, o, none⟩ = wr.cell? ⟨b, o, none⟩ := (fun b o h => Below.cell hSw (p := ⟨b, o, none⟩) h); go_simp; try with_reducible rfl; done)); try simp only [Act.put, List.setIfInBounds_toArray, List.set_cons_zero, List.set_cons_succ])
    (refine lat_now 84 (by rfl) ?_ (by as_aux_lemma => kernel_rfl) (fun _ _ _ h => h) ?_ ?_; rotate_left; (focus (intro wq hSw; have hrd : ∀ b o, b < wr.heap.size → wq.cell? ⟨b, o, none⟩ = wr.cell? ⟨b, o, none⟩ := (fun b o h => Below.cell hSw (p := ⟨b, o, none⟩) h); go_simp; try with_reducible rfl; done)); try simp only [Act.put, List.setIfInBounds_toArray, List.set_cons_zero, List.set_cons_succ])
    (refine lat_now 85 (by rfl) ?_ (by as_aux_lemma => kernel_rfl) (fun _ _ _ h => h) ?_ ?_; rotate_left; (focus (intro wq hSw; have hrd : ∀ b o, b < wr.heap.size → wq.cell? ⟨b, o, none⟩ = wr.cell? ⟨b, o, none⟩ := (fun b o h => Below.cell hSw (p := ⟨b, o, none⟩) h); go_simp; try with_reducible rfl; done)); try simp only [Act.put, List.setIfInBounds_toArray, List.set_cons_zero, List.set_cons_succ])
    (refine lat_late 86 (by rfl) (.slice none 0 0) (by as_aux_lemma => kernel_rfl) (fun _ _ _ h => h) (fun wq hSw => ⟨_, _, ?_, vnIds (hN.nx hSw)⟩) ?_; focus (go_simp; try with_reducible rfl; done); try simp only [Act.put, List.setIfInBounds_toArray, List.set_cons_zero, List.set_cons_succ])
    (refine lat_now 87 (by rfl) ?_ (by as_aux_lemma => kernel_rfl) (fun _ _ _ h => h) ?_ ?_; rotate_left; (focus (intro wq hSw; have hrd : ∀ b o, b < wr.heap.size → wq.cell? ⟨b, o, none⟩ = wr.cell? ⟨b, o, none⟩ := (fun b o h => Below.cell hSw (p := ⟨b, o, none⟩) h); go_simp; try with_reducible rfl; done)); try simp only [Act.put, List.setIfInBounds_toArray, List.set_cons_zero, List.set_cons_succ])
    (refine lat_now 88 (by rfl) ?_ (by as_aux_lemma => kernel_rfl) (fun _ _ _ h => h) ?_ ?_; rotate_left; (focus (intro wq hSw; have hrd : ∀ b o, b < wr.heap.size → wq.cell? ⟨b, o, none⟩ = wr.cell? ⟨b, o, none⟩ := (fun b o h => Below.cell hSw (p := ⟨b, o, none⟩) h); go_simp; try with_reducible rfl; done)); try simp only [Act.put, List.setIfInBounds_toArray, List.set_cons_zero, List.set_cons_succ])
    (refine lat_now 89 (by rfl) ?_ (by as_aux_lemma => kernel_rfl) (fun _ _ _ h => h) ?_ ?_; rotate_left; (focus (intro wq hSw; have hrd : ∀ b o, b < wr.heap.size → wq.cell? ⟨b, o, none⟩ = wr.cell? ⟨b, o, none⟩ := (fun b o h => Below.cell hSw (p := ⟨b, o, none⟩) h); go_simp; try with_reducible rfl; done)); try simp only [Act.put, List.setIfInBounds_toArray, List.set_cons_zero, List.set_cons_succ])
    (refine lat_now 90 (by rfl) ?_ (by as_aux_lemma => kernel_rfl) (fun _ _ _ h => h) ?_ ?_; rotate_left; (focus (intro wq hSw; have hrd : ∀ b o, b < wr.heap.size → wq.cell? ⟨b, o, none⟩ = wr.cell? ⟨b, o, none⟩ := (fun b o h => Below.cell hSw (p := ⟨b, o, none⟩) h); go_simp; try with_reducible rfl; done)); try simp only [Act.put, List.setIfInBounds_toArray, List.set_cons_zero, List.set_cons_succ])
    (refine lat_now 91 (by rfl) ?_ (by as_aux_lemma => kernel_rfl) (fun _ _ _ h => h) ?_ ?_; rotate_left; (focus (intro wq hSw; have hrd : ∀ b o, b < wr.heap.size → wq.cell? ⟨b, o, none⟩ = wr.cell? ⟨b, o, none⟩ := (fun b o h => Below.cell hSw (p := ⟨b, o, none⟩) h); go_simp; try with_reducible rfl; done)); try simp only [Act.put, List.setIfInBounds_toArray, List.set_cons_zero, List.set_cons_succ])
    (refine lat_late 92 (by rfl) (.pointer none) (by as_aux_lemma => kernel_rfl) (fun _ _ _ h => h) (fun wq hSw => ⟨_, _, ?_, vnCopy (hN.nx hSw)⟩) ?_; focus (go_simp; try with_reducible rfl; done); try simp only [Act.put, List.setIfInBounds_toArray, List.set_cons_zero, List.set_cons_succ])
    (refine lat_now 93 (by rfl) ?_ (by as_aux_lemma => kernel_rfl) (fun _ _ _ h => h) ?_ ?_; rotate_left; (focus (intro wq hSw; have hrd : ∀ b o, b < wr.heap.size → wq.cell? ⟨b, o, none⟩ = wr.cell? ⟨b, o, none⟩ := (fun b o h => Below.cell hSw (p := ⟨b, o, none⟩) h); go_simp; try with_reducible rfl; done)); try simp only [Act.put, List.setIfInBounds_toArray, List.set_cons_zero, List.set_cons_succ])
    (refine lat_now 94 (by rfl) ?_ (by as_aux_lemma => kernel_rfl) (fun _ _ _ h => h) ?_ ?_; rotate_left; (focus (intro wq hSw; have hrd : ∀ b o, b < wr.heap.size → wq.cell? ⟨b, o, none⟩ = wr.cell? ⟨b, o, none⟩ := (fun b o h => Below.cell hSw (p := ⟨b, o, none⟩) h); go_simp; try with_reducible rfl; done)); try simp only [Act.put, List.setIfInBounds_toArray, List.set_cons_zero, List.set_cons_succ])
    refine lat_done (by as_aux_lemma => kernel_rfl) (fun wz hz => ?_) _
    try refine NoPanic.normal ?_
    have hb : Below wr.heap.size wr wz := hz
    clear hz a1 a2 a3 a4 lta hN
    go_wp2_with fail
    exact ⟨⟨k + 1, by omega, by go_num, ha2.below hb ha2.lt, hp.below hb hp.lt, hB2.trans (hb.mono hB2.size)⟩, by simp [intOf]; omega⟩
  · obtain rfl : k = 2 := by omega
    go_wp2_with (go_at_call 34; refine (lives33_any _).mono ?_; rintro en w9 ⟨rfl, hb⟩)
    go_ret
    exact ⟨rfl, hB2.trans (hb.mono hB2.size)⟩
theorem none33_row (kd id n : Int) (on sm : Bool) (w : World) (_w1 : (Lit.int .i64 kd).wf = true) (_w2 : (Lit.int .i64 id).wf = true) (_w3 : (Lit.int .i64 n).wf = true) : Calls Tryz.prog 4 #[.agg #[.int .i64 kd, .int .i64 id, .int .i64 n, .bool on, .bool sm]] w fun e w' => e = .returned (.bool true) ∧ Below w.heap.size w w' := none33_walk kd id n on sm w
end Go.Proofs.YtgdeecmhhbdjgaaGreat
