/- timer: Now, Len, When, Cancel. -/
import Derived.Test.YtejgekoinbdhjaaTiG
namespace Go.Proofs.Ytejgekoinbdhjaa
set_option linter.unusedVariables false
open Go Go.RowKit Go.Maps

section
variable {w : World} {g b : Nat} {mo no co : Int} {v : Value} {A H : List Slo}
set_option maxRecDepth 100000 in
theorem nowT_in (h : TabV w g b mo no co v A H) : Calls Try.prog 63 #[.pointer (some ⟨g, 0, none⟩)] w fun e w' => e = .returned (.int .i64 no) ∧ w = w' := by
  have c1 : w.cell? ⟨g, 1, none⟩ = some (.int .i64 no) := h.blk.cellv 1 rfl
  go_enter Try.func63, Try.ntmps63
  go_wp2_with (go_at_call 134; refine (madeT_in h).mono ?_; rintro e w' ⟨rfl, rfl⟩)
  go_ret
  exact ⟨rfl, rfl⟩
set_option maxRecDepth 100000 in
theorem lenT_in (h : TabV w g b mo no co v A H) : Calls Try.prog 56 #[.pointer (some ⟨g, 0, none⟩)] w fun e w' => e = .returned (.int .i64 A.length) ∧ w = w' := by
  have c3 : w.cell? ⟨g, 3, none⟩ = some (.map (some b)) := h.blk.cellv 3 rfl
  have hlen := fun ty => h.ent.len tmap_und ty
  rw [List.length_map] at hlen
  go_enter Try.func56, Try.ntmps56
  go_wp2_with (go_at_call 134; refine (madeT_in h).mono ?_; rintro e w' ⟨rfl, rfl⟩)
  go_ret
  exact ⟨rfl, rfl⟩
end
theorem no_idT {A : List Slo} {id : Int} (h : ∀ a ∈ A, a.id ≠ id) : (Value.int .i64 id) ∉ (A.map sloE).map Prod.fst := by
  rw [List.map_map]
  intro hm
  obtain ⟨a, h1, h2⟩ := List.mem_map.1 hm
  simp only [Function.comp, sloE, Value.int.injEq, true_and] at h2
  exact h a h1 h2
theorem is_idT {A : List Slo} {s : Slo} (h : s ∈ A) : (Value.int .i64 s.id, Value.agg #[.int .i64 s.ex, .int .i64 s.od]) ∈ A.map sloE := List.mem_map.2 ⟨s, h, rfl⟩
set_option maxRecDepth 100000 in
theorem whenHit (w : World) (g b : Nat) (mo no co : Int) (v : Value) (A H : List Slo) (h : TabV w g b mo no co v A H) (s : Slo) (hs : s ∈ A) (r0 : -9223372036854775808 ≤ s.id) (r1 : s.id ≤ 9223372036854775807) : Calls Try.prog 59 #[.pointer (some ⟨g, 0, none⟩), .int .i64 s.id] w fun e w' => e = .returned (.tuple #[.int .i64 s.ex, .bool true]) ∧ Below w.heap.size w w' := by
  have c3 : w.cell? ⟨g, 3, none⟩ = some (.map (some b)) := h.blk.cellv 3 rfl
  have hlk := h.ent.hit1 tkey tmap_und (tlit s.id r0 r1) (is_idT hs)
  have hB := (Below.refl w.heap.size w).alloc (Nat.le_refl _) (.cells #[.int .i64 s.ex, .int .i64 s.od] 196)
  have hp := Blk.new w 196 #[.int .i64 s.ex, .int .i64 s.od]
  go_enter Try.func59, Try.ntmps59
  go_upto_region 4 with (go_at_call 134; refine (madeT_in h).mono ?_; rintro e w' ⟨rfl, rfl⟩)
  generalize w.alloc (.cells #[.int .i64 s.ex, .int .i64 s.od] 196) = w1 at *
  have p0 : w1.cell? ⟨w.heap.size, 0, none⟩ = some (.int .i64 s.ex) := hp.cellv 0 rfl
  have lp := hp.lt
  go_wp2_with fail
  go_ret2
  exact ⟨rfl, hB⟩
set_option maxRecDepth 100000 in
theorem whenMiss (w : World) (g b : Nat) (mo no co : Int) (v : Value) (A H : List Slo) (h : TabV w g b mo no co v A H) (id : Int) (hnot : ∀ a ∈ A, a.id ≠ id) (r0 : -9223372036854775808 ≤ id) (r1 : id ≤ 9223372036854775807) : Calls Try.prog 59 #[.pointer (some ⟨g, 0, none⟩), .int .i64 id] w fun e w' => e = .returned (.tuple #[.int .i64 0, .bool false]) ∧ Below w.heap.size w w' := by
  have c3 : w.cell? ⟨g, 3, none⟩ = some (.map (some b)) := h.blk.cellv 3 rfl
  have hlk := h.ent.miss1 tkey tmap_und alarm_zero (tlit id r0 r1) (no_idT hnot)
  have hB := (Below.refl w.heap.size w).alloc (Nat.le_refl _) (.cells #[.int .i64 0, .int .i64 0] 196)
  have hp := Blk.new w 196 #[.int .i64 0, .int .i64 0]
  go_enter Try.func59, Try.ntmps59
  go_upto_region 4 with (go_at_call 134; refine (madeT_in h).mono ?_; rintro e w' ⟨rfl, rfl⟩)
  generalize w.alloc (.cells #[.int .i64 0, .int .i64 0] 196) = w1 at *
  have p0 : w1.cell? ⟨w.heap.size, 0, none⟩ = some (.int .i64 0) := hp.cellv 0 rfl
  have lp := hp.lt
  go_wp2_with fail
  go_ret2
  exact ⟨rfl, hB⟩
end Go.Proofs.Ytejgekoinbdhjaa
