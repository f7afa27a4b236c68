/- timer: Cancel, Next, Armed at any table. -/
import Derived.Test.YtejgekoinbdhjaaTjF
import Derived.Test.YtejgekoinbdhjaaSrt
namespace Go.Proofs.Ytejgekoinbdhjaa
set_option linter.unusedVariables false
open Go Go.RowKit Go.Maps

set_option maxRecDepth 100000 in
set_option maxHeartbeats 4000000 in
theorem cancelHit (w : World) (g b : Nat) (mo no co : Int) (v : Value) (A H : List Slo) (h : TabV w g b mo no co v A H) (s : Slo) (j : Nat) (hj : A[j]? = some s) (r0 : -9223372036854775808 ≤ s.id) (r1 : s.id ≤ 9223372036854775807) : Calls Try.prog 61 #[.pointer (some ⟨g, 0, none⟩), .int .i64 s.id] w fun e w' => e = .returned (.bool true) ∧ TabV w' g b mo no co v (A.eraseIdx j) H ∧ Chg w w' (fun k => k = b) := by
  have c3 : w.cell? ⟨g, 3, none⟩ = some (.map (some b)) := h.blk.cellv 3 rfl
  have hlk := h.ent.hit1 tkey tmap_und (tlit s.id r0 r1) (is_idT (List.mem_of_getElem? hj))
  have hB := (Below.refl w.heap.size w).alloc (Nat.le_refl _) (.cells #[.int .i64 s.ex, .int .i64 s.od] 196)
  have hT := h.nx hB
  have hjE : (A.map sloE)[j]? = some (.int .i64 s.id, .agg #[.int .i64 s.ex, .int .i64 s.od]) := by rw [List.getElem?_map, hj]; rfl
  go_enter Try.func61, Try.ntmps61
  go_upto_region 4 with (go_at_call 134; refine (madeT_in h).mono ?_; rintro e w' ⟨rfl, rfl⟩)
  clear hlk c3
  generalize w.alloc (.cells #[.int .i64 s.ex, .int .i64 s.od] 196) = w1 at *
  have c3 : w1.cell? ⟨g, 3, none⟩ = some (.map (some b)) := hT.blk.cellv 3 rfl
  have ltg := hT.ltg
  go_wp2_with (refine wpList_del_hit rfl hT.ent tkey tmap_und (.tmp 22) (.tmp 23) rfl rfl rfl (tlit s.id r0 r1) hjE ?_; intro w7 he7 hg7)
  go_ret
  rw [← map_eraseIdx'] at he7
  have hT7 : TabV w7 g b mo no co v (A.eraseIdx j) H := ⟨hT.blk.grown hg7 (fun e => hT.ne (by injection e)), he7, ⟨hT.row.1.kept hg7 (.inr hT.nb), fun _ _ => trivial⟩, hT.ng, hT.nb⟩
  exact ⟨rfl, hT7, (Chg.of_below hB).trans (Chg.of_grown (X := fun k => k = b) hg7 rfl) (fun _ _ q => q)⟩
set_option maxRecDepth 100000 in
set_option maxHeartbeats 4000000 in
theorem cancelMiss (w : World) (g b : Nat) (mo no co : Int) (v : Value) (A H : List Slo) (h : TabV w g b mo no co v A H) (id : Int) (hnot : ∀ a ∈ A, a.id ≠ id) (r0 : -9223372036854775808 ≤ id) (r1 : id ≤ 9223372036854775807) : Calls Try.prog 61 #[.pointer (some ⟨g, 0, none⟩), .int .i64 id] w fun e w' => e = .returned (.bool false) ∧ TabV w' g b mo no co v A H ∧ Chg w w' (fun k => k = b) := by
  have c3 : w.cell? ⟨g, 3, none⟩ = some (.map (some b)) := h.blk.cellv 3 rfl
  have hlk := h.ent.miss1 tkey tmap_und alarm_zero (tlit id r0 r1) (no_idT hnot)
  have hB := (Below.refl w.heap.size w).alloc (Nat.le_refl _) (.cells #[.int .i64 0, .int .i64 0] 196)
  have hT := h.nx hB
  go_enter Try.func61, Try.ntmps61
  go_upto_region 4 with (go_at_call 134; refine (madeT_in h).mono ?_; rintro e w' ⟨rfl, rfl⟩)
  clear hlk c3
  generalize w.alloc (.cells #[.int .i64 0, .int .i64 0] 196) = w1 at *
  have c3 : w1.cell? ⟨g, 3, none⟩ = some (.map (some b)) := hT.blk.cellv 3 rfl
  have ltg := hT.ltg
  go_wp2_with (refine wpList_del_miss rfl hT.ent tkey tmap_und (.tmp 22) (.tmp 23) rfl rfl rfl (tlit id r0 r1) (no_idT hnot) ?_; intro w7 he7 hg7)
  go_ret
  have hT7 : TabV w7 g b mo no co v A H := ⟨hT.blk.grown hg7 (fun e => hT.ne (by injection e)), he7, ⟨hT.row.1.kept hg7 (.inr hT.nb), fun _ _ => trivial⟩, hT.ng, hT.nb⟩
  exact ⟨rfl, hT7, (Chg.of_below hB).trans (Chg.of_grown (X := fun k => k = b) hg7 rfl) (fun _ _ q => q)⟩
end Go.Proofs.Ytejgekoinbdhjaa
