/- pool: the document's sums and lists. -/
import Derived.Test.YtejgekoinbdhjaaPoR
import Derived.Test.YtejgekoinbdhjaaPoS
namespace Go.Proofs.Ytejgekoinbdhjaa
set_option linter.unusedVariables false
open Go Go.RowKit Go.Maps

theorem refNew25 (w : World) (X : Nat → Prop) (pc : Int) (h1 : 1 ≤ pc) (h2 : pc ≤ 100) :
    Calls Try.prog 35 #[.int .i64 pc] w fun e w' => e = .returned (.pointer (some ⟨w.heap.size, 0, none⟩)) ∧ RefIn w' X w.heap.size pc [] ∧ Below w.heap.size w w' := by
  have d1 : decide (pc < 1) = false := by simp; omega
  have d2 : decide (100 < pc) = false := by simp; omega
  go_enter Try.func35, Try.ntmps35
  go_wp2_with fail
  go_ret
  exact ⟨rfl, ⟨none, 0, 0, Nat.le_refl _, Nat.zero_le _, Blk.new _ _ _, Seen.none_⟩, (Below.refl _ _).alloc (Nat.le_refl _) _⟩
theorem refNewNo25 (w : World) (pc : Int) (h : pc < 1 ∨ 100 < pc) :
    Calls Try.prog 35 #[.int .i64 pc] w fun e w' => e = .returned (.pointer none) ∧ w = w' := by
  go_enter Try.func35, Try.ntmps35
  by_cases d : pc < 1
  · have d1 : decide (pc < 1) = true := by simpa using d
    go_wp2_with fail
    go_ret
    exact ⟨rfl, rfl⟩
  have d1 : decide (pc < 1) = false := by simpa using d
  have d2 : decide (100 < pc) = true := by simp; omega
  go_wp2_with fail
  go_ret
  exact ⟨rfl, rfl⟩
theorem sumW_take (so : Mem → Bool) (L : List Mem) (k : Nat) (m : Mem) (h : L[k]? = some m) : sumW so (L.take (k + 1)) = sumW so (L.take k) + (if so m then m.wt else 0) := by
  rw [List.take_add_one, h, Option.toList_some, sumW_app]
set_option maxRecDepth 100000 in
set_option maxHeartbeats 2000000 in
theorem refTotal25 (w : World) (X : Nat → Prop) (g : Nat) (pc : Int) (L : List Mem) (h : RefIn w X g pc L) (hM : MemsOk L) :
    Calls Try.prog 107 #[.pointer (some ⟨g, 0, none⟩)] w fun e w' => e = .returned (.int .i64 (sumW soAll L)) ∧ Below w.heap.size w w' := by
  obtain ⟨A, n, c, hnc, hcm, hq, hS⟩ := h
  have hl := Lib.hid hS.1
  have hn : n ≤ 16 := by have := hS.1; have := hM.1; omega
  have c1 : w.cell? ⟨g, 1, none⟩ = some (.slice A n c) := hq.cellv 1 rfl
  have ltg := hq.lt
  go_enter Try.func107, Try.ntmps107
  go_wp2_with fail
  go_loopw [3, 5, 11] (fun v _ i wr => ∃ k : Nat, k ≤ n ∧ i = .int .i64 (k : Int) ∧ v = .int .i64 (sumW soAll (L.take k)) ∧ Below w.heap.size w wr) (fun _ _ i _ => n - (intOf i).toNat)
  case atStart => exact ⟨0, Nat.zero_le _, rfl, rfl, Below.refl _ _⟩
  case round =>
  obtain ⟨k, hk, rfl, rfl, hB⟩ := hrel
  have hz := hB.size
  have hsb := sumW_bd soAll (L.take k) fun m hm => (hM.2 m (List.mem_of_mem_take hm)).2
  rw [List.length_take] at hsb
  by_cases hlt : k < n
  · obtain ⟨b, off, m, rfl, hb, hr, q0, q1, q2, q3, q4⟩ := mem_cells (hS.below hB fun _ q => q.2) hlt
    have hb2 : b < wr.heap.size := Nat.lt_of_lt_of_le hb.2 hz
    have hki : (k : Int) < n := by omega
    have hB2 := hB.alloc hz (.cells #[.int .i64 m.id, .int .u32 m.ad, .int .i64 m.wt, .bool m.up, .bool m.dr] 173)
    have hq := Blk.new wr 173 #[.int .i64 m.id, .int .u32 m.ad, .int .i64 m.wt, .bool m.up, .bool m.dr]
    have hbm := (hM.2 m (List.mem_of_getElem? hr)).2
    have hst := Lib.hid (sumW_take soAll L k m hr)
    go_upto_region 5 with (fail)
    clear q0 q1 q2 q3 q4
    generalize wr.alloc (.cells #[.int .i64 m.id, .int .u32 m.ad, .int .i64 m.wt, .bool m.up, .bool m.dr] 173) = w2 at *
    have r2 : w2.cell? ⟨wr.heap.size, 2, none⟩ = some (.int .i64 m.wt) := hq.cellv 2 rfl
    have r3 : w2.cell? ⟨wr.heap.size, 3, none⟩ = some (.bool m.up) := hq.cellv 3 rfl
    have r4 : w2.cell? ⟨wr.heap.size, 4, none⟩ = some (.bool m.dr) := hq.cellv 4 rfl
    have kw : IntKind.i64.wrap (sumW soAll (L.take k) + m.wt) = sumW soAll (L.take k) + m.wt := IntWalk.i64_in _ (by omega)
    go_wp2_with fail
    all_goals (refine ⟨⟨k + 1, by omega, by go_num, ?_, hB2⟩, by simp [intOf]; omega⟩; rw [hst.out]; simp_all [soAll])
  · obtain rfl : k = n := by omega
    have e : L.take k = L := List.take_of_length_le (by have := hl.out; omega)
    replace e := Lib.hid e
    go_wp2_with fail
    go_ret
    exact ⟨by rw [← e.out]; exact congrArg (fun L' => Ending.returned (.int .i64 (sumW soAll L'))) (by rw [e.out, e.out]), hB⟩
set_option maxRecDepth 100000 in
set_option maxHeartbeats 2000000 in
theorem refHealthy25 (w : World) (X : Nat → Prop) (g : Nat) (pc : Int) (L : List Mem) (h : RefIn w X g pc L) (hM : MemsOk L) :
    Calls Try.prog 108 #[.pointer (some ⟨g, 0, none⟩)] w fun e w' => e = .returned (.int .i64 (sumW soUp L)) ∧ Below w.heap.size w w' := by
  obtain ⟨A, n, c, hnc, hcm, hq, hS⟩ := h
  have hl := Lib.hid hS.1
  have hn : n ≤ 16 := by have := hS.1; have := hM.1; omega
  have c1 : w.cell? ⟨g, 1, none⟩ = some (.slice A n c) := hq.cellv 1 rfl
  have ltg := hq.lt
  go_enter Try.func108, Try.ntmps108
  go_wp2_with fail
  go_loopw [3, 5, 11] (fun v _ i wr => ∃ k : Nat, k ≤ n ∧ i = .int .i64 (k : Int) ∧ v = .int .i64 (sumW soUp (L.take k)) ∧ Below w.heap.size w wr) (fun _ _ i _ => n - (intOf i).toNat)
  case atStart => exact ⟨0, Nat.zero_le _, rfl, rfl, Below.refl _ _⟩
  case round =>
  obtain ⟨k, hk, rfl, rfl, hB⟩ := hrel
  have hz := hB.size
  have hsb := sumW_bd soUp (L.take k) fun m hm => (hM.2 m (List.mem_of_mem_take hm)).2
  rw [List.length_take] at hsb
  by_cases hlt : k < n
  · obtain ⟨b, off, m, rfl, hb, hr, q0, q1, q2, q3, q4⟩ := mem_cells (hS.below hB fun _ q => q.2) hlt
    have hb2 : b < wr.heap.size := Nat.lt_of_lt_of_le hb.2 hz
    have hki : (k : Int) < n := by omega
    have hB2 := hB.alloc hz (.cells #[.int .i64 m.id, .int .u32 m.ad, .int .i64 m.wt, .bool m.up, .bool m.dr] 173)
    have hq := Blk.new wr 173 #[.int .i64 m.id, .int .u32 m.ad, .int .i64 m.wt, .bool m.up, .bool m.dr]
    have hbm := (hM.2 m (List.mem_of_getElem? hr)).2
    have hst := Lib.hid (sumW_take soUp L k m hr)
    go_upto_region 5 with (fail)
    clear q0 q1 q2 q3 q4
    generalize wr.alloc (.cells #[.int .i64 m.id, .int .u32 m.ad, .int .i64 m.wt, .bool m.up, .bool m.dr] 173) = w2 at *
    have r2 : w2.cell? ⟨wr.heap.size, 2, none⟩ = some (.int .i64 m.wt) := hq.cellv 2 rfl
    have r3 : w2.cell? ⟨wr.heap.size, 3, none⟩ = some (.bool m.up) := hq.cellv 3 rfl
    have r4 : w2.cell? ⟨wr.heap.size, 4, none⟩ = some (.bool m.dr) := hq.cellv 4 rfl
    have kw : IntKind.i64.wrap (sumW soUp (L.take k) + m.wt) = sumW soUp (L.take k) + m.wt := IntWalk.i64_in _ (by omega)
    go_wp2_with fail
    all_goals (refine ⟨⟨k + 1, by omega, by go_num, ?_, hB2⟩, by simp [intOf]; omega⟩; rw [hst.out]; simp_all [soUp])
  · obtain rfl : k = n := by omega
    have e : L.take k = L := List.take_of_length_le (by have := hl.out; omega)
    replace e := Lib.hid e
    go_wp2_with fail
    go_ret
    exact ⟨by rw [← e.out]; exact congrArg (fun L' => Ending.returned (.int .i64 (sumW soUp L'))) (by rw [e.out, e.out]), hB⟩
set_option maxRecDepth 100000 in
set_option maxHeartbeats 4000000 in
theorem refAll25 (w : World) (X : Nat → Prop) (g : Nat) (pc : Int) (L : List Mem) (h : RefIn w X g pc L) (hM : MemsOk L) :
    Calls Try.prog 112 #[.pointer (some ⟨g, 0, none⟩)] w fun e w' => ∃ v, e = .returned v ∧ Rows bkK w' w.heap.size w.heap.size 26 v (selB soAll L) ∧ Below w.heap.size w w' := by
  obtain ⟨A, n, c, hnc, hcm, hq, hS⟩ := h
  have hl := Lib.hid hS.1
  have hn : n ≤ 16 := by have := hS.1; have := hM.1; omega
  have c1 : w.cell? ⟨g, 1, none⟩ = some (.slice A n c) := hq.cellv 1 rfl
  have ltg := hq.lt
  go_enter Try.func112, Try.ntmps112
  go_wp2_with fail
  go_loopw [3, 5, 11] (fun v _ i wr => ∃ k : Nat, k ≤ n ∧ i = .int .i64 (k : Int) ∧ Rows bkK wr w.heap.size w.heap.size 26 v (selB soAll (L.take k)) ∧ Below w.heap.size w wr) (fun _ _ i _ => n - (intOf i).toNat)
  case atStart => exact ⟨0, Nat.zero_le _, rfl, Rows.nil _ _ _ _, Below.refl _ _⟩
  case round =>
  obtain ⟨k, hk, rfl, hv, hB⟩ := hrel
  have hz := hB.size
  have hsl := selB_len soAll (L.take k)
  rw [List.length_take] at hsl
  by_cases hlt : k < n
  · obtain ⟨b, off, m, rfl, hb, hr, q0, q1, q2, q3, q4⟩ := mem_cells (hS.below hB fun _ q => q.2) hlt
    have hb2 : b < wr.heap.size := Nat.lt_of_lt_of_le hb.2 hz
    have hki : (k : Int) < n := by omega
    have hb3 := (Below.refl wr.heap.size wr).alloc (Nat.le_refl _) (.cells #[.int .i64 m.id, .int .u32 m.ad, .int .i64 m.wt, .bool m.up, .bool m.dr] 173)
    have hq := Blk.new wr 173 #[.int .i64 m.id, .int .u32 m.ad, .int .i64 m.wt, .bool m.up, .bool m.dr]
    have hj := Lib.hid (selB_take soAll L k m hr)
    go_upto_region 5 with (fail)
    clear q0 q1 q2 q3 q4
    generalize wr.alloc (.cells #[.int .i64 m.id, .int .u32 m.ad, .int .i64 m.wt, .bool m.up, .bool m.dr] 173) = w4 at *
    have s0 : w4.cell? ⟨wr.heap.size, 0, none⟩ = some (.int .i64 m.id) := hq.cellv 0 rfl
    have s1 : w4.cell? ⟨wr.heap.size, 1, none⟩ = some (.int .u32 m.ad) := hq.cellv 1 rfl
    have s2 : w4.cell? ⟨wr.heap.size, 2, none⟩ = some (.int .i64 m.wt) := hq.cellv 2 rfl
    have s3 : w4.cell? ⟨wr.heap.size, 3, none⟩ = some (.bool m.up) := hq.cellv 3 rfl
    have s4 : w4.cell? ⟨wr.heap.size, 4, none⟩ = some (.bool m.dr) := hq.cellv 4 rfl
    have hB4 := hB.trans (hb3.mono hz)
    have hv4 := hv.below hb3
    have hv5 := hv4.alloc (.cells #[.int .i64 m.id, .int .u32 m.ad, .int .i64 m.wt] 26)
    have hseen := seen_one (R := bkK) (S := fun _ => False) (S' := fun _ => True) w4 26 (bkOf m) #[.int .i64 m.id, .int .u32 m.ad, .int .i64 m.wt] rfl trivial (fun _ h => h.elim) trivial (fun _ h => h.elim)
    have hb6 := hb3.alloc hb3.size (.cells #[.int .i64 m.id, .int .u32 m.ad, .int .i64 m.wt] 26)
    have hz6 := hb6.size
    replace hv4 := Lib.hid hv4
    go_wp2_with (at_builtin; refine wpList_rows bk_ok rfl (.tmp 15) (.tmp 18) rfl hv5 rfl rfl hseen (fun _ _ => trivial) (by unfold maxLen; omega) (by omega) (by omega) ?_; intro v6 w6 hv6 hg6)
    all_goals first
      | (have hx : soAll m = true := by first | rfl | (rw [hso]; simp [*]; done) | (rw [hso]; simp_all; done)
         exact ⟨⟨k + 1, by omega, by go_num, by rw [hj.out, hx]; exact hv6, hB.trans ((hb6.mono hz).trans (hv5.below_app hg6 (by omega)))⟩, by simp [intOf]; omega⟩)
      | (have hx : soAll m = false := by first | (rw [hso]; simp [*]; done) | (rw [hso]; simp_all; done) | (rw [hso]; simp_all; omega)
         exact ⟨⟨k + 1, by omega, by go_num, by rw [hj.out, hx]; simpa using hv4.out, hB4⟩, by simp [intOf]; omega⟩)
  · obtain rfl : k = n := by omega
    rw [List.take_of_length_le (by have := hl.out; omega)] at hv
    go_wp2_with fail
    go_ret
    exact ⟨_, rfl, hv, hB⟩
set_option maxRecDepth 100000 in
set_option maxHeartbeats 4000000 in
theorem refEligible25 (w : World) (X : Nat → Prop) (g : Nat) (pc : Int) (L : List Mem) (h : RefIn w X g pc L) (hM : MemsOk L) :
    Calls Try.prog 111 #[.pointer (some ⟨g, 0, none⟩)] w fun e w' => ∃ v, e = .returned v ∧ Rows bkK w' w.heap.size w.heap.size 26 v (selB soUse L) ∧ Below w.heap.size w w' := by
  obtain ⟨A, n, c, hnc, hcm, hq, hS⟩ := h
  have hl := Lib.hid hS.1
  have hn : n ≤ 16 := by have := hS.1; have := hM.1; omega
  have c1 : w.cell? ⟨g, 1, none⟩ = some (.slice A n c) := hq.cellv 1 rfl
  have ltg := hq.lt
  go_enter Try.func111, Try.ntmps111
  go_wp2_with fail
  go_loopw [3, 5, 11] (fun v _ i wr => ∃ k : Nat, k ≤ n ∧ i = .int .i64 (k : Int) ∧ Rows bkK wr w.heap.size w.heap.size 26 v (selB soUse (L.take k)) ∧ Below w.heap.size w wr) (fun _ _ i _ => n - (intOf i).toNat)
  case atStart => exact ⟨0, Nat.zero_le _, rfl, Rows.nil _ _ _ _, Below.refl _ _⟩
  case round =>
  obtain ⟨k, hk, rfl, hv, hB⟩ := hrel
  have hz := hB.size
  have hsl := selB_len soUse (L.take k)
  rw [List.length_take] at hsl
  by_cases hlt : k < n
  · obtain ⟨b, off, m, rfl, hb, hr, q0, q1, q2, q3, q4⟩ := mem_cells (hS.below hB fun _ q => q.2) hlt
    have hb2 : b < wr.heap.size := Nat.lt_of_lt_of_le hb.2 hz
    have hki : (k : Int) < n := by omega
    have hb3 := (Below.refl wr.heap.size wr).alloc (Nat.le_refl _) (.cells #[.int .i64 m.id, .int .u32 m.ad, .int .i64 m.wt, .bool m.up, .bool m.dr] 173)
    have hq := Blk.new wr 173 #[.int .i64 m.id, .int .u32 m.ad, .int .i64 m.wt, .bool m.up, .bool m.dr]
    have hj := Lib.hid (selB_take soUse L k m hr)
    go_upto_region 5 with (fail)
    clear q0 q1 q2 q3 q4
    generalize wr.alloc (.cells #[.int .i64 m.id, .int .u32 m.ad, .int .i64 m.wt, .bool m.up, .bool m.dr] 173) = w4 at *
    have s0 : w4.cell? ⟨wr.heap.size, 0, none⟩ = some (.int .i64 m.id) := hq.cellv 0 rfl
    have s1 : w4.cell? ⟨wr.heap.size, 1, none⟩ = some (.int .u32 m.ad) := hq.cellv 1 rfl
    have s2 : w4.cell? ⟨wr.heap.size, 2, none⟩ = some (.int .i64 m.wt) := hq.cellv 2 rfl
    have s3 : w4.cell? ⟨wr.heap.size, 3, none⟩ = some (.bool m.up) := hq.cellv 3 rfl
    have s4 : w4.cell? ⟨wr.heap.size, 4, none⟩ = some (.bool m.dr) := hq.cellv 4 rfl
    have hB4 := hB.trans (hb3.mono hz)
    have hv4 := hv.below hb3
    have hv5 := hv4.alloc (.cells #[.int .i64 m.id, .int .u32 m.ad, .int .i64 m.wt] 26)
    have hseen := seen_one (R := bkK) (S := fun _ => False) (S' := fun _ => True) w4 26 (bkOf m) #[.int .i64 m.id, .int .u32 m.ad, .int .i64 m.wt] rfl trivial (fun _ h => h.elim) trivial (fun _ h => h.elim)
    have hb6 := hb3.alloc hb3.size (.cells #[.int .i64 m.id, .int .u32 m.ad, .int .i64 m.wt] 26)
    have hz6 := hb6.size
    replace hv4 := Lib.hid hv4
    have hso : soUse m = (m.up && !m.dr && decide (0 < m.wt)) := rfl
    generalize hu : m.up = u at s3 hso
    generalize hd : m.dr = d at s4 hso
    go_wp2_with (at_builtin; refine wpList_rows bk_ok rfl (.tmp 28) (.tmp 31) rfl hv5 rfl rfl hseen (fun _ _ => trivial) (by unfold maxLen; omega) (by omega) (by omega) ?_; intro v6 w6 hv6 hg6)
    all_goals first
      | (have hx : soUse m = true := by first | rfl | (rw [hso]; simp [*]; done) | (rw [hso]; simp_all; done)
         exact ⟨⟨k + 1, by omega, by go_num, by rw [hj.out, hx]; exact hv6, hB.trans ((hb6.mono hz).trans (hv5.below_app hg6 (by omega)))⟩, by simp [intOf]; omega⟩)
      | (have hx : soUse m = false := by first | (rw [hso]; simp [*]; done) | (rw [hso]; simp_all; done) | (rw [hso]; simp_all; omega)
         exact ⟨⟨k + 1, by omega, by go_num, by rw [hj.out, hx]; simpa using hv4.out, hB4⟩, by simp [intOf]; omega⟩)
  · obtain rfl : k = n := by omega
    rw [List.take_of_length_le (by have := hl.out; omega)] at hv
    go_wp2_with fail
    go_ret
    exact ⟨_, rfl, hv, hB⟩
set_option maxRecDepth 100000 in
set_option maxHeartbeats 2000000 in
theorem refQuorate25 (w : World) (X : Nat → Prop) (g : Nat) (pc : Int) (L : List Mem) (h : RefIn w X g pc L) (hM : MemsOk L) :
    Calls Try.prog 109 #[.pointer (some ⟨g, 0, none⟩)] w fun e w' => e = .returned (.bool (quoB (sumW soUp L) (sumW soAll L) pc)) ∧ Below w.heap.size w w' := by
  have c0 : w.cell? ⟨g, 0, none⟩ = some (.int .i64 pc) := by obtain ⟨A, n, c, _, _, hq, _⟩ := h; exact hq.cellv 0 rfl
  have ltg := h.lt
  go_enter Try.func109, Try.ntmps109
  go_upto_region 1 with (fail)
  -- region 1: 0 1C 2 3C 4 5 6 7 8C 9
  try refine wp_region_noPanic ?_
  refine wp_region_lat (by kernel_rfl) ?_
  (refine lat_now 0 (by rfl) ?_ (by kernel_rfl) (fun _ _ _ h => h) ?_ ?_; rotate_left; (focus (intro wq hSw; have hrd : ∀ b o, b < w.heap.size → wq.cell? ⟨b, o, none⟩ = w.cell? ⟨b, o, none⟩ := (fun b o h => Below.cell hSw (p := ⟨b, o, none⟩) h); go_simp; try with_reducible rfl; done)); try simp only [Act.put, List.setIfInBounds_toArray, List.set_cons_zero, List.set_cons_succ])
  (refine lat_now 2 (by rfl) ?_ (by kernel_rfl) (fun _ _ _ h => h) ?_ ?_; rotate_left; (focus (intro wq hSw; have hrd : ∀ b o, b < w.heap.size → wq.cell? ⟨b, o, none⟩ = w.cell? ⟨b, o, none⟩ := (fun b o h => Below.cell hSw (p := ⟨b, o, none⟩) h); go_simp; try with_reducible rfl; done)); try simp only [Act.put, List.setIfInBounds_toArray, List.set_cons_zero, List.set_cons_succ])
  (refine lat_now 4 (by rfl) ?_ (by kernel_rfl) (fun _ _ _ h => h) ?_ ?_; rotate_left; (focus (intro wq hSw; have hrd : ∀ b o, b < w.heap.size → wq.cell? ⟨b, o, none⟩ = w.cell? ⟨b, o, none⟩ := (fun b o h => Below.cell hSw (p := ⟨b, o, none⟩) h); go_simp; try with_reducible rfl; done)); try simp only [Act.put, List.setIfInBounds_toArray, List.set_cons_zero, List.set_cons_succ])
  (refine lat_now 5 (by rfl) ?_ (by kernel_rfl) (fun _ _ _ h => h) ?_ ?_; rotate_left; (focus (intro wq hSw; have hrd : ∀ b o, b < w.heap.size → wq.cell? ⟨b, o, none⟩ = w.cell? ⟨b, o, none⟩ := (fun b o h => Below.cell hSw (p := ⟨b, o, none⟩) h); go_simp; try with_reducible rfl; done)); try simp only [Act.put, List.setIfInBounds_toArray, List.set_cons_zero, List.set_cons_succ])
  (refine lat_now 6 (by rfl) ?_ (by kernel_rfl) (fun _ _ _ h => h) ?_ ?_; rotate_left; (focus (intro wq hSw; have hrd : ∀ b o, b < w.heap.size → wq.cell? ⟨b, o, none⟩ = w.cell? ⟨b, o, none⟩ := (fun b o h => Below.cell hSw (p := ⟨b, o, none⟩) h); go_simp; try with_reducible rfl; done)); try simp only [Act.put, List.setIfInBounds_toArray, List.set_cons_zero, List.set_cons_succ])
  (refine lat_now 7 (by rfl) ?_ (by kernel_rfl) (fun _ _ _ h => h) ?_ ?_; rotate_left; (focus (intro wq hSw; have hrd : ∀ b o, b < w.heap.size → wq.cell? ⟨b, o, none⟩ = w.cell? ⟨b, o, none⟩ := (fun b o h => Below.cell hSw (p := ⟨b, o, none⟩) h); go_simp; try with_reducible rfl; done)); try simp only [Act.put, List.setIfInBounds_toArray, List.set_cons_zero, List.set_cons_succ])
  (refine lat_late 1 (by rfl) (.int .i64 (sumW soUp L)) (by kernel_rfl) (fun _ _ _ h => h) (fun wq hSw => ⟨_, _, ?_, (refHealthy25 wq X g pc L (h.nx hSw) hM)⟩) ?_; focus (go_simp; try with_reducible rfl; done); try simp only [Act.put, List.setIfInBounds_toArray, List.set_cons_zero, List.set_cons_succ])
  (refine lat_late 3 (by rfl) (.int .i64 (sumW soAll L)) (by kernel_rfl) (fun _ _ _ h => h) (fun wq hSw => ⟨_, _, ?_, (refTotal25 wq X g pc L (h.nx hSw) hM)⟩) ?_; focus (go_simp; try with_reducible rfl; done); try simp only [Act.put, List.setIfInBounds_toArray, List.set_cons_zero, List.set_cons_succ])
  (refine lat_late 8 (by rfl) (.bool (quoB (sumW soUp L) (sumW soAll L) pc)) (by kernel_rfl) (fun _ _ _ h => h) (fun wq hSw => ⟨_, _, ?_, ((refQuorum_any wq _ _ _).mono fun _ _ q => ⟨q.1, q.2 ▸ Below.refl _ _⟩)⟩) ?_; focus (go_simp; try with_reducible rfl; done); try simp only [Act.put, List.setIfInBounds_toArray, List.set_cons_zero, List.set_cons_succ])
  (refine lat_now 9 (by rfl) ?_ (by kernel_rfl) (fun _ _ _ h => h) ?_ ?_; rotate_left; (focus (intro wq hSw; have hrd : ∀ b o, b < w.heap.size → wq.cell? ⟨b, o, none⟩ = w.cell? ⟨b, o, none⟩ := (fun b o h => Below.cell hSw (p := ⟨b, o, none⟩) h); go_simp; try with_reducible rfl; done)); try simp only [Act.put, List.setIfInBounds_toArray, List.set_cons_zero, List.set_cons_succ])
  refine lat_done (by kernel_rfl) (fun wz hz => ?_) _
  try refine NoPanic.normal ?_
  go_wp2_with fail
  go_ret
  exact ⟨rfl, hz⟩
end Go.Proofs.Ytejgekoinbdhjaa
