/- pool: the program's functions, each in one word. -/
import Derived.Test.YtejgekoinbdhjaaPqA
namespace Go.Proofs.Ytejgekoinbdhjaa
set_option linter.unusedVariables false
open Go Go.RowKit Go.Maps

section
variable (w : World) (g b : Nat) (pc : Int) (M : List Mem) (h : PoolIn w g b pc M)
include h
theorem pAddS (id ad wt : Int) : Calls Try.prog 20 #[.pointer (some ⟨g, 0, none⟩), .agg #[.int .i64 id, .int .u32 ad, .int .i64 wt]] w fun e w' => e = .returned (.int .i64 (addP M id ad wt).1) ∧ PoolIn w' g b pc (addP M id ad wt).2 ∧ w.grownBy w' (some b) := by
  unfold addP
  by_cases hok : addOk id ad wt = false
  · rw [if_pos hok]
    exact (addNo_any w g b pc M id ad wt h hok).mono fun e w' q => ⟨q.1, h.nx q.2, grown_of_below q.2 (Nat.le_refl _) _⟩
  rw [if_neg hok]
  replace hok : addOk id ad wt = true := by simpa using hok
  cases hf : findF M id with
  | some k =>
    obtain ⟨m, hm, rfl⟩ := findF_get hf
    exact addThere w g b pc M m ad wt h hok (List.mem_of_getElem? hm)
  | none =>
    by_cases hl : 16 ≤ M.length
    · simp only [if_pos hl]
      exact addFull w g b pc M id ad wt h hok (findF_no hf) hl
    · simp only [if_neg hl]
      exact addNew w g b pc M id ad wt h hok (findF_no hf) (by omega)
variable (id : Int) (r0 : -9223372036854775808 ≤ id) (r1 : id ≤ 9223372036854775807)
include r0 r1
theorem pRemS : Calls Try.prog 21 #[.pointer (some ⟨g, 0, none⟩), .int .i64 id] w fun e w' => e = .returned (.bool (remR M id).1) ∧ PoolIn w' g b pc (remR M id).2 ∧ w.grownBy w' (some b) := by
  cases hf : findF M id with
  | some k =>
    obtain ⟨m, hm, rfl⟩ := findF_get hf
    have e : remR M m.id = (true, M.eraseIdx k) := by unfold remR; rw [hf]
    rw [e]
    exact removeHit w g b pc M h k m hm r0 r1
  | none =>
    have e : remR M id = (false, M) := by unfold remR; rw [hf]
    rw [e]
    exact removeMiss w g b pc M h id (findF_no hf) r0 r1
theorem pMarkS (u : Bool) : Calls Try.prog 23 #[.pointer (some ⟨g, 0, none⟩), .int .i64 id, .bool u] w fun e w' => e = .returned (.int .i64 (markR M id u).1) ∧ PoolIn w' g b pc (markR M id u).2 ∧ w.grownBy w' (some b) := by
  unfold markR
  cases hf : findF M id with
  | some k =>
    obtain ⟨m, hm, rfl⟩ := findF_get hf
    rw [getM_some hf hm, setR_some hf hm]
    exact pMark w g b pc M k m u h hm r0 r1
  | none =>
    have e : ∀ x y z, setR M id x y z = (7, M) := fun x y z => by unfold setR; rw [hf]
    rw [e]
    exact (pMarkNo w g b pc M id u h r0 r1 (findF_no hf)).mono fun e w' q => ⟨q.1, h.nx q.2, grown_of_below q.2 (Nat.le_refl _) _⟩
theorem pDrainS (u : Bool) : Calls Try.prog 24 #[.pointer (some ⟨g, 0, none⟩), .int .i64 id, .bool u] w fun e w' => e = .returned (.int .i64 (drainR M id u).1) ∧ PoolIn w' g b pc (drainR M id u).2 ∧ w.grownBy w' (some b) := by
  unfold drainR
  cases hf : findF M id with
  | some k =>
    obtain ⟨m, hm, rfl⟩ := findF_get hf
    rw [getM_some hf hm, setR_some hf hm]
    exact pDrain w g b pc M k m u h hm r0 r1
  | none =>
    have e : ∀ x y z, setR M id x y z = (7, M) := fun x y z => by unfold setR; rw [hf]
    rw [e]
    exact (pDrainNo w g b pc M id u h r0 r1 (findF_no hf)).mono fun e w' q => ⟨q.1, h.nx q.2, grown_of_below q.2 (Nat.le_refl _) _⟩
theorem pWeighS (u : Int) : Calls Try.prog 22 #[.pointer (some ⟨g, 0, none⟩), .int .i64 id, .int .i64 u] w fun e w' => e = .returned (.int .i64 (weighR M id u).1) ∧ PoolIn w' g b pc (weighR M id u).2 ∧ w.grownBy w' (some b) := by
  unfold weighR
  cases hf : findF M id with
  | some k =>
    obtain ⟨m, hm, rfl⟩ := findF_get hf
    rw [findZ_some hf]
    by_cases hw : wtB u = true
    · rw [if_neg (by rw [hw]; simp), getM_some hf hm, setR_some hf hm]
      exact pWeigh w g b pc M k m u h hm r0 r1 hw
    · have hw' : wtB u = false := by simpa using hw
      rw [if_pos (by rw [hw']; simp)]
      exact (pWeighBad w g b pc M m u h (List.mem_of_getElem? hm) r0 r1 hw').mono fun e w' q => ⟨q.1, h.nx q.2, grown_of_below q.2 (Nat.le_refl _) _⟩
  | none =>
    rw [findZ_none hf, if_neg (by simp)]
    have e : ∀ x y z, setR M id x y z = (7, M) := fun x y z => by unfold setR; rw [hf]
    rw [e]
    exact (pWeighNo w g b pc M id u h r0 r1 (findF_no hf)).mono fun e w' q => ⟨q.1, h.nx q.2, grown_of_below q.2 (Nat.le_refl _) _⟩
theorem pGetS : Calls Try.prog 19 #[.pointer (some ⟨g, 0, none⟩), .int .i64 id] w fun e w' => e = .returned (.tuple #[.agg #[.int .i64 (getM M id).id, .int .u32 (getM M id).ad, .int .i64 (getM M id).wt], .bool (findF M id).isSome]) ∧ Below w.heap.size w w' := by
  cases hf : findF M id with
  | some k =>
    obtain ⟨m, hm, rfl⟩ := findF_get hf
    rw [getM_some hf hm]
    exact pGetHit w g b pc M h m (List.mem_of_getElem? hm) r0 r1
  | none =>
    rw [getM_none hf]
    exact pGetMiss w g b pc M h id (findF_no hf) r0 r1
theorem pUpS : Calls Try.prog 25 #[.pointer (some ⟨g, 0, none⟩), .int .i64 id] w fun e w' => e = .returned (.bool (getM M id).up) ∧ Below w.heap.size w w' := by
  cases hf : findF M id with
  | some k =>
    obtain ⟨m, hm, rfl⟩ := findF_get hf
    rw [getM_some hf hm]
    exact pUpHit w g b pc M h m (List.mem_of_getElem? hm) r0 r1
  | none =>
    rw [getM_none hf]
    exact pUpMiss w g b pc M h id (findF_no hf) r0 r1
theorem pDrainingS : Calls Try.prog 26 #[.pointer (some ⟨g, 0, none⟩), .int .i64 id] w fun e w' => e = .returned (.bool (getM M id).dr) ∧ Below w.heap.size w w' := by
  cases hf : findF M id with
  | some k =>
    obtain ⟨m, hm, rfl⟩ := findF_get hf
    rw [getM_some hf hm]
    exact pDrainingHit w g b pc M h m (List.mem_of_getElem? hm) r0 r1
  | none =>
    rw [getM_none hf]
    exact pDrainingMiss w g b pc M h id (findF_no hf) r0 r1
end
end Go.Proofs.Ytejgekoinbdhjaa
