/- chk: the other functions' contracts. -/
import Derived.Test.YtmibakbfjljfmaaChkS
namespace Go.Proofs.Ytmibakbfjljfmaa
set_option linter.unusedVariables false
open Go.RowKit

theorem foldV_lo (n : Int) (h : 0 ≤ n) : 0 ≤ foldV n := by unfold foldV; split <;> omega
theorem foldV_hi (n : Int) : foldV n ≤ 65535 := by unfold foldV; split <;> omega
theorem csum_lo (l : List UInt8) : 0 ≤ csum l := foldV_lo _ (wsum_lo _ _)
theorem csum_hi (l : List UInt8) : csum l ≤ 65535 := foldV_hi _
theorem foldV_foldV (a b : Int) (ha : 0 ≤ a) (hb : 0 ≤ b) : foldV (foldV a + b) = foldV (a + b) := by
  unfold foldV; repeat' (first | omega | split)

set_option maxHeartbeats 400000 in
theorem refSum_any (A : Option Addr) (len cap : Nat) (zs : List UInt8) (hlen : len ≤ 140737488351232) (w : World) (hI : Byt w w.heap.size A len zs) :
    Calls Try.prog 10 #[.slice A len cap] w fun e w' => e = .returned (.int .i64 (csum zs)) ∧ w = w' := by
  go_enter Try.func10, Try.ntmps10
  go_wp2
  go_loop [3, 4, 5] (fun s i _ => ∃ k : Nat, 2 * k ≤ len + 1 ∧ i = .int .i64 (2 * k : Nat) ∧ s = .int .i64 (foldV (wsum zs k))) (fun _ i _ => len + 2 - (intOf i).toNat)
  case atStart => exact ⟨0, Nat.zero_le _, rfl, rfl⟩
  case round =>
    obtain ⟨k, hk, rfl, rfl⟩ := hrel
    have s1 := foldV_lo _ (wsum_lo zs k)
    have s2 := foldV_hi (wsum zs k)
    by_cases hlt : 2 * k < len
    · obtain ⟨b, off, rfl, hb, hcc⟩ := hI.2 (by omega)
      have hc1 := hcc (2 * k) hlt
      have b1 := byAt_lo zs (2 * k)
      have b2 := byAt_hi zs (2 * k)
      have H : Hid (foldV (foldV (wsum zs k) % 65536 + (256 * byAt zs (2 * k) + byAt zs (2 * k + 1)) % 65536) = foldV (wsum zs (k + 1))) := by
        have b3 := byAt_lo zs (2 * k + 1)
        have b4 := byAt_hi zs (2 * k + 1)
        rw [show wsum zs (k + 1) = wsum zs k + wordAt zs k from rfl, ← foldV_foldV _ _ (wsum_lo zs k) (wordAt_lo zs k)]
        unfold wordAt
        exact congrArg foldV (by omega)
      by_cases hlt2 : 2 * k + 1 < len
      · have hc2 := hcc (2 * k + 1) hlt2
        have b3 := byAt_lo zs (2 * k + 1)
        have b4 := byAt_hi zs (2 * k + 1)
        clear hcc
        go_wp2_with (go_at_call 16; refine (refAdd_any _ _ _).mono ?_; rintro e w' ⟨rfl, rfl⟩)
        go_round
        case rel => exact ⟨k + 1, by omega, by go_num, by rw [H.out]⟩
        case measure => simp [intOf]; omega
      · clear hcc
        have e : byAt zs (2 * k + 1) = 0 := byAt_out zs _ (by have := hI.1; omega)
        rw [e, Int.add_zero] at H
        clear e
        go_wp2_with (go_at_call 16; refine (refAdd_any _ _ _).mono ?_; rintro e w' ⟨rfl, rfl⟩)
        go_round
        case rel => exact ⟨k + 1, by omega, by go_num, by rw [H.out]⟩
        case measure => simp [intOf]; omega
    · have H : Hid (foldV (wsum zs k) = csum zs) := by unfold csum; rw [hI.1, show (len + 1) / 2 = k from by omega]; trivial
      go_wp2
      go_ret
      exact ⟨ret_int H.out, rfl⟩

set_option maxHeartbeats 400000 in
theorem add_any (s t : Int) (w : World) :
    Calls Try.prog 14 #[.int .i64 s, .int .i64 t] w fun e w' => e = .returned (.int .i64 (foldV (s % 65536 + t % 65536))) ∧ w = w' := by
  go_enter Try.func14, Try.ntmps14
  go_wp2_with (go_at_call 21; refine (fold_any _ _ (by omega)).mono ?_; rintro e w' ⟨rfl, rfl⟩)
  go_ret
  exact ⟨rfl, rfl⟩

set_option maxHeartbeats 400000 in
theorem of_any (A : Option Addr) (len cap : Nat) (zs : List UInt8) (hlen : len ≤ 140737488351232) (w : World) (hI : Byt w w.heap.size A len zs) :
    Calls Try.prog 11 #[.slice A len cap] w fun e W' => e = .returned (.int .i64 (65535 - csum zs)) ∧ Below w.heap.size w W' := by
  have s1 := csum_lo zs
  have s2 := csum_hi zs
  go_enter Try.func11, Try.ntmps11
  go_wp2_with (go_at_call 9; refine (sum_any _ _ _ zs hlen _ hI).mono ?_; rintro e w' ⟨rfl, hb⟩)
  go_ret
  exact ⟨ret_int (by omega), hb⟩
set_option maxHeartbeats 400000 in
theorem refOf_any (A : Option Addr) (len cap : Nat) (zs : List UInt8) (hlen : len ≤ 140737488351232) (w : World) (hI : Byt w w.heap.size A len zs) :
    Calls Try.prog 12 #[.slice A len cap] w fun e w' => e = .returned (.int .i64 (65535 - csum zs)) ∧ w = w' := by
  have s1 := csum_lo zs
  have s2 := csum_hi zs
  go_enter Try.func12, Try.ntmps12
  go_wp2_with (go_at_call 10; refine (refSum_any _ _ _ zs hlen _ hI).mono ?_; rintro e w' ⟨rfl, rfl⟩)
  go_ret
  exact ⟨rfl, rfl⟩
set_option maxHeartbeats 400000 in
theorem good_any (A : Option Addr) (len cap : Nat) (zs : List UInt8) (hlen : len ≤ 140737488351232) (w : World) (hI : Byt w w.heap.size A len zs) :
    Calls Try.prog 13 #[.slice A len cap] w fun e W' => e = .returned (.bool (csum zs == 65535)) ∧ Below w.heap.size w W' := by
  go_enter Try.func13, Try.ntmps13
  go_wp2_with (go_at_call 9; refine (sum_any _ _ _ zs hlen _ hI).mono ?_; rintro e w' ⟨rfl, hb⟩)
  go_ret
  exact ⟨rfl, hb⟩

/-- the document's examples. -/
theorem lives_any (w : World) : Calls Try.prog 8 #[] w fun e W' => e = .returned (.bool true) ∧ Below w.heap.size w W' := by
  have H1 : Hid (csum [1, 2, 3, 4] = 1030) := (by decide +kernel : csum [1, 2, 3, 4] = 1030)
  have H2 : Hid (csum [] = 0) := (by decide +kernel : csum [] = 0)
  have hI : Byt (w.alloc (.cells #[.int .u8 1, .int .u8 2, .int .u8 3, .int .u8 4] 5)) (w.heap.size + 1) (some ⟨w.heap.size, 0, none⟩) 4 [1, 2, 3, 4] := Byt.new w [1, 2, 3, 4] _ _
  go_enter Try.func8, Try.ntmps8
  go_wp2_with fail
  refine (of_any _ _ _ [1, 2, 3, 4] (by omega) _ (by simpa using hI)).mono ?_
  rintro e w1 ⟨rfl, hb⟩
  rw [H1.out]
  go_wp2_with fail
  refine (good_any _ _ _ [] (by omega) _ Byt.none_).mono ?_
  rintro e w2 ⟨rfl, hb2⟩
  rw [H2.out]
  go_wp2_with fail
  go_ret
  refine ⟨rfl, ?_⟩
  have h0 : Below w.heap.size w (w.alloc (.cells #[.int .u8 1, .int .u8 2, .int .u8 3, .int .u8 4] 5)) := (Below.refl _ _).alloc (Nat.le_refl _) _
  have h1 := h0.trans (hb.mono h0.size)
  exact h1.trans (hb2.mono h1.size)

set_option maxHeartbeats 400000 in
theorem sums_walk (a0 : Option Addr) (len0 cap0 : Nat) (zs : List UInt8) (w : World) (_hl : len0 ≤ cap0) (_hm : cap0 ≤ maxLen) (hI : Byt w w.heap.size a0 len0 zs) :
    Calls Try.prog 3 #[.slice a0 len0 cap0] w fun e w' => e = .returned (.bool true) ∧ Below w.heap.size w w' := by
  have hB := Below.refl w.heap.size w
  by_cases hl : 3000 < len0
  · go_enter Try.func3, Try.ntmps3
    go_wp2_with (go_at_call 8; refine (lives_any _).mono ?_; rintro e w' ⟨rfl, hb⟩)
    go_ret
    exact ⟨rfl, hb⟩
  · have hlen : len0 ≤ 140737488351232 := by omega
    have s1 := csum_lo zs
    have s2 := csum_hi zs
    go_enter Try.func3, Try.ntmps3
    go_wp2_with (first
      | (go_at_call 8; refine (lives_any _).mono ?_; rintro e w' ⟨rfl, hb⟩; have hB := hB.trans (hb.mono hB.size); have hI := (hI.below hb).more hb.size; clear hb)
      | (go_at_call 9; refine (sum_any _ _ _ zs hlen _ hI).mono ?_; rintro e w' ⟨rfl, hb⟩; have hB := hB.trans (hb.mono hB.size); have hI := (hI.below hb).more hb.size; clear hb)
      | (go_at_call 11; refine (of_any _ _ _ zs hlen _ hI).mono ?_; rintro e w' ⟨rfl, hb⟩; have hB := hB.trans (hb.mono hB.size); have hI := (hI.below hb).more hb.size; clear hb)
      | (go_at_call 13; refine (good_any _ _ _ zs hlen _ hI).mono ?_; rintro e w' ⟨rfl, hb⟩; have hB := hB.trans (hb.mono hB.size); have hI := (hI.below hb).more hb.size; clear hb)
      | (go_at_call 10; refine (refSum_any _ _ _ zs hlen _ hI).mono ?_; rintro e w' ⟨rfl, rfl⟩)
      | (go_at_call 12; refine (refOf_any _ _ _ zs hlen _ hI).mono ?_; rintro e w' ⟨rfl, rfl⟩))
    go_ret
    exact ⟨rfl, hB⟩
end Go.Proofs.Ytmibakbfjljfmaa
