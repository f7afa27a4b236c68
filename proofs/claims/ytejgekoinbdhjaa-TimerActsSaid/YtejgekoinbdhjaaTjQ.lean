/- timer: Arm with an old id, in plain terms. -/
import Derived.Test.YtejgekoinbdhjaaTjO
namespace Go.Proofs.Ytejgekoinbdhjaa
set_option linter.unusedVariables false
open Go Go.RowKit Go.Maps

theorem set_perm' {A : List Slo} {j : Nat} (hj : j < A.length) (x : Slo) : (A.set j x).Perm (x :: A.eraseIdx j) := by
  rw [List.set_eq_take_append_cons_drop, if_pos hj, List.eraseIdx_eq_take_drop_succ]
  exact List.perm_middle
/-- the entries where an id is armed: new or old. -/
theorem GoodT.rearmed {mo no co id n : Int} {M A H : List Slo} (h : GoodT mo no co M A H) (hid : 0 ≤ id ∧ id < mo) (hn : 1 ≤ n) (hno : 0 ≤ no ∧ no < 1099511627776) {j : Nat} {s : Slo} (hj : A[j]? = some s) (hs : s.id = id) :
    GoodT mo no (co + 1) (noId id M ++ [⟨id, addT no n, co + 1⟩]) (A.set j ⟨id, addT no n, co + 1⟩) (upL H.length (H ++ [⟨id, addT no n, co + 1⟩]) H.length) := by
  have hc := h.cancelled hj
  rw [hs] at hc
  have hod : ∀ s ∈ noId id M, 0 < s.od ∧ s.od ≤ co := fun s hs => by
    have := hc.rng s (hc.held.2 s (hc.perm.mem_iff.2 hs))
    unfold SloIn at this
    omega
  have hf := h.few
  have hco := h.hco
  have hjl := (List.getElem?_eq_some_iff.1 hj).1
  refine ⟨h.hmo, by omega, ?_, ?_, ?_, ?_, ?_, ⟨arm_heap _ h.held.1, ?_⟩, ?_⟩
  · exact (set_perm' hjl _).trans ((hc.perm.cons _).trans (List.perm_append_singleton _ _).symm)
  · rw [List.pairwise_append]
    exact ⟨hc.asc, by simp, fun a ha b hb => by rw [List.mem_singleton] at hb; subst hb; have := hod a ha; show a.od < co + 1; omega⟩
  · rw [List.pairwise_append]
    exact ⟨hc.ids, by simp, fun a ha b hb => by
      rw [List.mem_singleton] at hb
      subst hb
      have := (List.mem_filter.1 ha).2
      simpa using this⟩
  · intro s hs
    rcases List.mem_append.1 hs with hs | hs
    · exact hc.late s hs
    · rw [List.mem_singleton] at hs
      subst hs
      show no < addT no n
      unfold addT
      omega
  · intro s hs
    rw [up_mem] at hs
    rcases List.mem_append.1 hs with hs | hs
    · have := h.rng s hs
      unfold SloIn at *
      omega
    · rw [List.mem_singleton] at hs
      subst hs
      exact ⟨hid.1, hid.2, by show 0 < co + 1; omega, Int.le_refl _⟩
  · intro a ha
    rw [up_mem]
    rcases List.mem_or_eq_of_mem_set ha with ha | ha
    · exact List.mem_append_left _ (h.held.2 a ha)
    · exact List.mem_append_right _ (by simp [ha])
  · rw [upL_len, List.length_append]
    simp only [List.length_singleton]
    omega
end Go.Proofs.Ytejgekoinbdhjaa
