/- pool: sums of weights; Quorate. -/
import Derived.Test.YtejgekoinbdhjaaPoC
namespace Go.Proofs.Ytejgekoinbdhjaa
set_option linter.unusedVariables false
open Go Go.RowKit Go.Maps Go.MapKept

/-- how many entries an iterator has left. -/
def iterLeft (w : World) (b r : Nat) : Nat := match w.heap[b]?, w.heap[r]? with
  | some (.map es _), some (.mapIter _ _ seen _) => (leftOf es seen).size
  | _, _ => 0
theorem rng_left {P : Program} {K : TypeId} {w : World} {b r : Nat} {l dn : List (Value × Value)} (h : Rng P K w b r l dn) : iterLeft w b r + dn.length = l.length := by
  obtain ⟨es, clock, since, seen, c0, h1, h2, h3, h4, h5, h6, h7, h8, h9⟩ := h
  have e : iterLeft w b r = (leftOf es seen).size := by unfold iterLeft; rw [h1, h5]
  have := h9.length_eq
  rw [List.length_append, List.length_map] at this
  rw [e]
  simp at this ⊢
  omega
/-- the weights of those that are so. -/
def sumW (so : Mem → Bool) : List Mem → Int
  | [] => 0
  | m :: D => (if so m then m.wt else 0) + sumW so D
theorem sumW_app (so : Mem → Bool) (D : List Mem) (m : Mem) : sumW so (D ++ [m]) = sumW so D + (if so m then m.wt else 0) := by
  induction D with
  | nil => simp [sumW]
  | cons x D ih => rw [List.cons_append, sumW, ih, sumW]; omega
theorem sumW_perm (so : Mem → Bool) {D E : List Mem} (h : D.Perm E) : sumW so D = sumW so E := by
  induction h with
  | nil => rfl
  | cons x _ ih => rw [sumW, sumW, ih]
  | swap x y l => simp only [sumW]; omega
  | trans _ _ h1 h2 => exact h1.trans h2
/-- what every pool's members are. -/
def MemsOk (M : List Mem) : Prop := M.length ≤ 16 ∧ ∀ m ∈ M, (0 ≤ m.id ∧ m.id ≤ 255) ∧ (0 ≤ m.wt ∧ m.wt ≤ 100)
theorem sumW_bd (so : Mem → Bool) (D : List Mem) (h : ∀ m ∈ D, 0 ≤ m.wt ∧ m.wt ≤ 100) : 0 ≤ sumW so D ∧ sumW so D ≤ 100 * D.length := by
  induction D with
  | nil => simp [sumW]
  | cons x D ih =>
    have h1 := ih fun m hm => h m (List.mem_cons_of_mem _ hm)
    have h2 := h x List.mem_cons_self
    rw [sumW, List.length_cons]
    split <;> omega
theorem memE_perm {D M : List Mem} (h : (D.map memE).Perm (M.map memE)) : D.Perm M := by
  have := h.map memD
  rw [List.map_map, List.map_map] at this
  have e : memD ∘ memE = id := rfl
  rw [e, List.map_id, List.map_id] at this
  exact this
def soAll (_ : Mem) : Bool := true
def soUp (m : Mem) : Bool := m.up && !m.dr
def soUse (m : Mem) : Bool := soUp m && decide (0 < m.wt)
set_option maxRecDepth 100000 in
theorem so_all (w : World) (m : Mem) : Calls Try.prog 94 #[.agg #[.int .i64 m.id, .int .u32 m.ad, .int .i64 m.wt, .bool m.up, .bool m.dr]] w fun e w' => e = .returned (.bool (soAll m)) ∧ Below w.heap.size w w' := by
  have hB := (Below.refl w.heap.size w).alloc (Nat.le_refl _) (.cells #[.int .i64 m.id, .int .u32 m.ad, .int .i64 m.wt, .bool m.up, .bool m.dr] 157)
  have hp := Blk.new w 157 #[.int .i64 m.id, .int .u32 m.ad, .int .i64 m.wt, .bool m.up, .bool m.dr]
  go_enter Try.func94, Try.ntmps94
  go_upto_region 1 with (fail)
  generalize w.alloc (.cells #[.int .i64 m.id, .int .u32 m.ad, .int .i64 m.wt, .bool m.up, .bool m.dr] 157) = w1 at *
  have p3 : w1.cell? ⟨w.heap.size, 3, none⟩ = some (.bool m.up) := hp.cellv 3 rfl
  have p4 : w1.cell? ⟨w.heap.size, 4, none⟩ = some (.bool m.dr) := hp.cellv 4 rfl
  go_wp2_with fail
  all_goals go_ret
  all_goals (refine ⟨ret_bool ?_, hB⟩; simp_all [soAll])
set_option maxRecDepth 100000 in
set_option maxHeartbeats 2000000 in
theorem weight_all (w : World) (g b : Nat) (pc : Int) (M : List Mem) (h : PoolIn w g b pc M) (hM : MemsOk M) :
    Calls Try.prog 93 #[.pointer (some ⟨g, 0, none⟩), .func (.func 94) #[] #[]] w fun e w' => e = .returned (.int .i64 (sumW soAll M)) ∧ Below w.heap.size w w' := by
  have c1 : w.cell? ⟨g, 1, none⟩ = some (.map (some b)) := h.1.cellv 1 rfl
  have ltg := h.ltg
  have ltb := h.ltb
  go_enter Try.func93, Try.ntmps93
  go_wp2_with (first
    | (go_at_call 87; refine (made_in h).mono ?_; rintro e w' ⟨rfl, rfl⟩)
    | (refine wpList_range_ent (by rfl) h.2 map_und (.tmp 13) (by rfl) (by rfl) ?_; intro w1 hr1 hb1))
  simp only [Act.put, List.setIfInBounds_toArray, List.set_cons_zero, List.set_cons_succ]
  go_loopw [5, 7] (fun n _ wr => ∃ D : List Mem, n = .int .i64 (sumW soAll D) ∧ Rng Try.prog 3 wr b w.heap.size (M.map memE) (D.map memE) ∧ (∀ m ∈ D, m ∈ M) ∧ Below w.heap.size w wr) (fun _ _ wr => iterLeft wr b w.heap.size)
  case atStart => exact ⟨[], rfl, hr1, by simp, hb1⟩
  case round =>
  obtain ⟨D, rfl, hr, hD, hB⟩ := hrel
  have hz := hB.size
  have h2 := h.nx hB
  have ltr := hr.ltr
  have hleft := rng_left hr
  rw [List.length_map, List.length_map] at hleft
  have hsb := sumW_bd soAll D fun m hm => (hM.2 m (hD m hm)).2
  have hM16 := hM.1
  rcases hr.next 0 with ⟨hp, hrun⟩ | ⟨k, v, w2, hrun, hr2, hm, hlen, hg2, hent⟩
  · go_wp2_with fail
    go_ret
    rw [sumW_perm soAll (memE_perm hp)]
    exact ⟨rfl, hB⟩
  · obtain ⟨m, hmM, e⟩ := List.mem_map.1 hm
    injection e with e1 e2
    subst e1
    subst e2
    rw [List.length_map, List.length_map] at hlen
    have hbm := (hM.2 m hmM).2
    have hB2 := below_own hB hg2 hz (Nat.le_refl _)
    have hz2 := hB2.size
    have hB3 := hB2.alloc hz2 (.cells #[.int .i64 m.id, .int .u32 m.ad, .int .i64 m.wt, .bool m.up, .bool m.dr] 157)
    have hr3 := hr2.below (B := w2.heap.size) ((Below.refl w2.heap.size w2).alloc (Nat.le_refl _) (.cells #[.int .i64 m.id, .int .u32 m.ad, .int .i64 m.wt, .bool m.up, .bool m.dr] 157)) hr2.ent.lt hr2.ltr
    have hq := Blk.new w2 157 #[.int .i64 m.id, .int .u32 m.ad, .int .i64 m.wt, .bool m.up, .bool m.dr]
    unfold memC at hrun hent hr2 hr3
    go_upto_region 6 with (fail)
    generalize w2.alloc (.cells #[.int .i64 m.id, .int .u32 m.ad, .int .i64 m.wt, .bool m.up, .bool m.dr] 157) = w3 at *
    have q0 : w3.cell? ⟨w2.heap.size, 0, none⟩ = some (.int .i64 m.id) := hq.cellv 0 rfl
    have q1 : w3.cell? ⟨w2.heap.size, 1, none⟩ = some (.int .u32 m.ad) := hq.cellv 1 rfl
    have q2 : w3.cell? ⟨w2.heap.size, 2, none⟩ = some (.int .i64 m.wt) := hq.cellv 2 rfl
    have q3 : w3.cell? ⟨w2.heap.size, 3, none⟩ = some (.bool m.up) := hq.cellv 3 rfl
    have q4 : w3.cell? ⟨w2.heap.size, 4, none⟩ = some (.bool m.dr) := hq.cellv 4 rfl
    have hD2 : ∀ x ∈ D ++ [m], x ∈ M := by
      intro x hx
      rcases List.mem_append.1 hx with hx | hx
      · exact hD x hx
      · rw [List.mem_singleton.1 hx]; exact hmM
    have hsa := sumW_app soAll D m
    have kw : IntKind.i64.wrap (sumW soAll D + m.wt) = sumW soAll D + m.wt := IntWalk.i64_in _ (by omega)
    have hr4 : Rng Try.prog 3 w3 b w.heap.size (M.map memE) ((D ++ [m]).map memE) := by rw [List.map_append]; exact hr3
    clear hr2 hr3 hrun hent hm
    replace hsa := Lib.hid hsa
    go_wp2_with (go_at_call 94; refine (so_all w3 m).mono ?_; rintro e w4 ⟨rfl, hb4⟩; have s2 := (hq.below hb4 hq.lt).cellv 2 rfl; have hB4 := hB3.trans (hb4.mono hB3.size); have hr5 := hr4.nx hb4; have hl5 := rng_left hr5; rw [List.length_map, List.length_map, List.length_append, List.length_singleton] at hl5; cases hso : soAll m)
    · exact ⟨⟨D ++ [m], by rw [hsa.out, hso]; simp, hr5, hD2, hB4⟩, by omega⟩
    · exact ⟨⟨D ++ [m], by rw [hsa.out, hso]; simp, hr5, hD2, hB4⟩, by omega⟩
set_option maxRecDepth 100000 in
theorem so_up (w : World) (m : Mem) : Calls Try.prog 95 #[.agg #[.int .i64 m.id, .int .u32 m.ad, .int .i64 m.wt, .bool m.up, .bool m.dr]] w fun e w' => e = .returned (.bool (soUp m)) ∧ Below w.heap.size w w' := by
  have hB := (Below.refl w.heap.size w).alloc (Nat.le_refl _) (.cells #[.int .i64 m.id, .int .u32 m.ad, .int .i64 m.wt, .bool m.up, .bool m.dr] 157)
  have hp := Blk.new w 157 #[.int .i64 m.id, .int .u32 m.ad, .int .i64 m.wt, .bool m.up, .bool m.dr]
  go_enter Try.func95, Try.ntmps95
  go_upto_region 1 with (fail)
  generalize w.alloc (.cells #[.int .i64 m.id, .int .u32 m.ad, .int .i64 m.wt, .bool m.up, .bool m.dr] 157) = w1 at *
  have p3 : w1.cell? ⟨w.heap.size, 3, none⟩ = some (.bool m.up) := hp.cellv 3 rfl
  have p4 : w1.cell? ⟨w.heap.size, 4, none⟩ = some (.bool m.dr) := hp.cellv 4 rfl
  go_wp2_with fail
  all_goals go_ret
  all_goals (refine ⟨ret_bool ?_, hB⟩; simp_all [soUp])
set_option maxRecDepth 100000 in
set_option maxHeartbeats 2000000 in
theorem weight_up (w : World) (g b : Nat) (pc : Int) (M : List Mem) (h : PoolIn w g b pc M) (hM : MemsOk M) :
    Calls Try.prog 93 #[.pointer (some ⟨g, 0, none⟩), .func (.func 95) #[] #[]] w fun e w' => e = .returned (.int .i64 (sumW soUp M)) ∧ Below w.heap.size w w' := by
  have c1 : w.cell? ⟨g, 1, none⟩ = some (.map (some b)) := h.1.cellv 1 rfl
  have ltg := h.ltg
  have ltb := h.ltb
  go_enter Try.func93, Try.ntmps93
  go_wp2_with (first
    | (go_at_call 87; refine (made_in h).mono ?_; rintro e w' ⟨rfl, rfl⟩)
    | (refine wpList_range_ent (by rfl) h.2 map_und (.tmp 13) (by rfl) (by rfl) ?_; intro w1 hr1 hb1))
  simp only [Act.put, List.setIfInBounds_toArray, List.set_cons_zero, List.set_cons_succ]
  go_loopw [5, 7] (fun n _ wr => ∃ D : List Mem, n = .int .i64 (sumW soUp D) ∧ Rng Try.prog 3 wr b w.heap.size (M.map memE) (D.map memE) ∧ (∀ m ∈ D, m ∈ M) ∧ Below w.heap.size w wr) (fun _ _ wr => iterLeft wr b w.heap.size)
  case atStart => exact ⟨[], rfl, hr1, by simp, hb1⟩
  case round =>
  obtain ⟨D, rfl, hr, hD, hB⟩ := hrel
  have hz := hB.size
  have h2 := h.nx hB
  have ltr := hr.ltr
  have hleft := rng_left hr
  rw [List.length_map, List.length_map] at hleft
  have hsb := sumW_bd soUp D fun m hm => (hM.2 m (hD m hm)).2
  have hM16 := hM.1
  rcases hr.next 0 with ⟨hp, hrun⟩ | ⟨k, v, w2, hrun, hr2, hm, hlen, hg2, hent⟩
  · go_wp2_with fail
    go_ret
    rw [sumW_perm soUp (memE_perm hp)]
    exact ⟨rfl, hB⟩
  · obtain ⟨m, hmM, e⟩ := List.mem_map.1 hm
    injection e with e1 e2
    subst e1
    subst e2
    rw [List.length_map, List.length_map] at hlen
    have hbm := (hM.2 m hmM).2
    have hB2 := below_own hB hg2 hz (Nat.le_refl _)
    have hz2 := hB2.size
    have hB3 := hB2.alloc hz2 (.cells #[.int .i64 m.id, .int .u32 m.ad, .int .i64 m.wt, .bool m.up, .bool m.dr] 157)
    have hr3 := hr2.below (B := w2.heap.size) ((Below.refl w2.heap.size w2).alloc (Nat.le_refl _) (.cells #[.int .i64 m.id, .int .u32 m.ad, .int .i64 m.wt, .bool m.up, .bool m.dr] 157)) hr2.ent.lt hr2.ltr
    have hq := Blk.new w2 157 #[.int .i64 m.id, .int .u32 m.ad, .int .i64 m.wt, .bool m.up, .bool m.dr]
    unfold memC at hrun hent hr2 hr3
    go_upto_region 6 with (fail)
    generalize w2.alloc (.cells #[.int .i64 m.id, .int .u32 m.ad, .int .i64 m.wt, .bool m.up, .bool m.dr] 157) = w3 at *
    have q0 : w3.cell? ⟨w2.heap.size, 0, none⟩ = some (.int .i64 m.id) := hq.cellv 0 rfl
    have q1 : w3.cell? ⟨w2.heap.size, 1, none⟩ = some (.int .u32 m.ad) := hq.cellv 1 rfl
    have q2 : w3.cell? ⟨w2.heap.size, 2, none⟩ = some (.int .i64 m.wt) := hq.cellv 2 rfl
    have q3 : w3.cell? ⟨w2.heap.size, 3, none⟩ = some (.bool m.up) := hq.cellv 3 rfl
    have q4 : w3.cell? ⟨w2.heap.size, 4, none⟩ = some (.bool m.dr) := hq.cellv 4 rfl
    have hD2 : ∀ x ∈ D ++ [m], x ∈ M := by
      intro x hx
      rcases List.mem_append.1 hx with hx | hx
      · exact hD x hx
      · rw [List.mem_singleton.1 hx]; exact hmM
    have hsa := sumW_app soUp D m
    have kw : IntKind.i64.wrap (sumW soUp D + m.wt) = sumW soUp D + m.wt := IntWalk.i64_in _ (by omega)
    have hr4 : Rng Try.prog 3 w3 b w.heap.size (M.map memE) ((D ++ [m]).map memE) := by rw [List.map_append]; exact hr3
    clear hr2 hr3 hrun hent hm
    replace hsa := Lib.hid hsa
    go_wp2_with (go_at_call 95; refine (so_up w3 m).mono ?_; rintro e w4 ⟨rfl, hb4⟩; have s2 := (hq.below hb4 hq.lt).cellv 2 rfl; have hB4 := hB3.trans (hb4.mono hB3.size); have hr5 := hr4.nx hb4; have hl5 := rng_left hr5; rw [List.length_map, List.length_map, List.length_append, List.length_singleton] at hl5; cases hso : soUp m)
    · exact ⟨⟨D ++ [m], by rw [hsa.out, hso]; simp, hr5, hD2, hB4⟩, by omega⟩
    · exact ⟨⟨D ++ [m], by rw [hsa.out, hso]; simp, hr5, hD2, hB4⟩, by omega⟩
end Go.Proofs.Ytejgekoinbdhjaa
