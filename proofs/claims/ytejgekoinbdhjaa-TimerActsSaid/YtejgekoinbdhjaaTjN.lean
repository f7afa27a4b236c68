/- timer: builtin clear of a row's tail. -/
import Derived.Test.YtejgekoinbdhjaaTjM
import Derived.Laws.IdiomCopy
namespace Go.Proofs.Ytejgekoinbdhjaa
set_option linter.unusedVariables false
open Go Go.RowKit Go.Maps

theorem slot_zero (w : World) : (zeroValue 198).run Try.prog w = .ok (.agg #[.int .i64 0, .int .i64 0, .int .i64 0]) w := by kernel_rfl
theorem run_clear {w : World} {r cap n : Nat} {H : List Slo} (h : Rows sloK w 0 0 198 (.slice (some ⟨r, 0, none⟩) n cap) H) {i : Nat} (hi : i ≤ n) (c2 : Nat) (ty : TypeId) :
    ∃ w', (Builtin.clear_ #[99] ty #[.slice (some ⟨r, i * 3, none⟩) (n - i) c2]).run Try.prog w = .ok (.tuple #[]) w' ∧ Rows sloK w' 0 0 198 (.slice (some ⟨r, 0, none⟩) i cap) (H.take i) ∧ w.grownBy w' (some r) := by
  have hl := row_len h
  by_cases hk : n - i = 0
  · refine ⟨w, ?_, slo_take h hi, grown_refl w _⟩
    rw [hk]
    simp [Builtin.clear_]
  · obtain ⟨k, hk2⟩ : ∃ k, n - i = k + 1 := ⟨n - i - 1, by omega⟩
    rw [hk2]
    obtain ⟨zs, hzs⟩ : ∃ zs, zs = (Builtin.zeroCells (Value.agg #[Value.int IntKind.i64 0, Value.int IntKind.i64 0, Value.int IntKind.i64 0]).cells (k + 1)).toList := ⟨_, rfl⟩
    have hzl : zs.length = (k + 1) * 3 := by rw [hzs]; simp [Builtin.zeroCells, Value.cells]
    have hz1 : ∀ v ∈ zs, v.oneCell' = true := by
      intro v hv
      rw [hzs] at hv
      simp only [Builtin.zeroCells, Value.cells, Array.toList_map, List.mem_map] at hv
      obtain ⟨q, _, rfl⟩ := hv
      have h3 : q % 3 < 3 := Nat.mod_lt _ (by omega)
      have : q % 3 = 0 ∨ q % 3 = 1 ∨ q % 3 = 2 := by omega
      rcases this with e | e | e <;> simp [e, Value.oneCell']
    have hfl := flat_len sloK H
    have h0 := h.1
    rw [hl] at h0
    have hfl3 : (H.flatMap sloK.cel).length = n * 3 := by rw [hfl, hl]; rfl
    obtain ⟨h1, h2⟩ := own_setCells zs (i * 3) w (H.flatMap sloK.cel) h0 (by rw [hfl3, hzl]; omega)
    have hrun := run_storeCells_cells (P := Try.prog) r (i * 3) zs 0 w (fun j hj => by
      rw [h0.cell _ (by show i * 3 + 0 + j < n * 3; omega), List.getElem?_eq_getElem (by rw [hfl3]; omega)]; rfl) (fun j hj => h0.free _) hz1
    rw [Nat.add_zero] at hrun
    simp [Builtin.clear_]
    rw [← hzs, hrun]
    refine ⟨_, rfl, ?_, h2⟩
    have hft := flat_take (R := sloK) (l := H) i
    obtain ⟨q1, q2 | ⟨g, cap', cur, e, hb, hh, hc1, hc2, hs, ht⟩⟩ := h1
    · cases q2.1
    · injection e with e1 e2 e3
      injection e1 with e1
      injection e1 with e1
      subst e1 e3
      refine ⟨⟨?_, .inr ⟨r, cap, cur, ?_, Nat.zero_le _, hh, by rw [List.length_take]; omega, hc2, hs, ?_⟩⟩, fun _ _ => trivial⟩
      · rw [flat_len]
      · rw [List.length_take, Nat.min_eq_left (by omega)]
      · replace ht : cur.toList.take (n * 3) = _ := ht
        have h5 : (cur.toList.take (n * 3)).take (i * 3) = (H.flatMap sloK.cel).take (i * 3) := by
          rw [ht, List.append_assoc, List.take_append_of_le_length (by rw [List.length_take, hfl3]; omega), List.take_take, Nat.min_self]
        rw [List.take_take, Nat.min_eq_left (by omega)] at h5
        rw [List.length_take, Nat.min_eq_left (by omega), ← hft]
        exact h5
end Go.Proofs.Ytejgekoinbdhjaa
