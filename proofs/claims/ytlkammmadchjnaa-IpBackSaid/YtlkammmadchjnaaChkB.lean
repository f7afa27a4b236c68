/- chk: the other functions' contracts. -/
import Derived.Test.YtlkammmadchjnaaChkS
namespace Go.Proofs.Ytlkammmadchjnaa
set_option linter.unusedVariables false
open Go.RowKit

theorem foldV_lo (n : Int) (h : 0 ≤ n) : 0 ≤ foldV n := by unfold foldV; split <;> omega
theorem foldV_hi (n : Int) : foldV n ≤ 65535 := by unfold foldV; split <;> omega
theorem csum_lo (l : List UInt8) : 0 ≤ csum l := foldV_lo _ (wsum_lo _ _)
theorem csum_hi (l : List UInt8) : csum l ≤ 65535 := foldV_hi _
theorem foldV_foldV (a b : Int) (ha : 0 ≤ a) (hb : 0 ≤ b) : foldV (foldV a + b) = foldV (a + b) := by
  unfold foldV; repeat' (first | omega | split)

set_option maxHeartbeats 400000 in
theorem refSum_any (A : Option Addr) (len cap : Nat) (zs : List UInt8) (hlen : len ≤ 140737488351232) (w : World) (hI : Byt w w.heap.size A len zs) :
    Calls Try.prog 36 #[.slice A len cap] w fun e w' => e = .returned (.int .i64 (csum zs)) ∧ w = w' := by
  go_enter Try.func36, Try.ntmps36
  go_wp2
  go_loop [3, 4, 5] (fun s i _ => ∃ k : Nat, 2 * k ≤ len + 1 ∧ i = .int .i64 (2 * k : Nat) ∧ s = .int .i64 (foldV (wsum zs k))) (fun _ i _ => len + 2 - (intOf i).toNat)
  case atStart => exact ⟨0, Nat.zero_le _, rfl, rfl⟩
  case round =>
    obtain ⟨k, hk, rfl, rfl⟩ := hrel
    have s1 := foldV_lo _ (wsum_lo zs k)
    have s2 := foldV_hi (wsum zs k)
    by_cases hlt : 2 * k < len
    · obtain ⟨b, off, rfl, hb, hcc⟩ := hI.2 (by omega)
      have hc1 := hcc (2 * k) hlt
      have b1 := byAt_lo zs (2 * k)
      have b2 := byAt_hi zs (2 * k)
      have H : Hid (foldV (foldV (wsum zs k) % 65536 + (256 * byAt zs (2 * k) + byAt zs (2 * k + 1)) % 65536) = foldV (wsum zs (k + 1))) := by
        have b3 := byAt_lo zs (2 * k + 1)
        have b4 := byAt_hi zs (2 * k + 1)
        rw [show wsum zs (k + 1) = wsum zs k + wordAt zs k from rfl, ← foldV_foldV _ _ (wsum_lo zs k) (wordAt_lo zs k)]
        unfold wordAt
        exact congrArg foldV (by omega)
      by_cases hlt2 : 2 * k + 1 < len
      · have hc2 := hcc (2 * k + 1) hlt2
        have b3 := byAt_lo zs (2 * k + 1)
        have b4 := byAt_hi zs (2 * k + 1)
        clear hcc
        go_wp2_with (go_at_call 55; refine (refAdd_any _ _ _).mono ?_; rintro e w' ⟨rfl, rfl⟩)
        go_round
        case rel => exact ⟨k + 1, by omega, by go_num, by rw [H.out]⟩
        case measure => simp [intOf]; omega
      · clear hcc
        have e : byAt zs (2 * k + 1) = 0 := byAt_out zs _ (by have := hI.1; omega)
        rw [e, Int.add_zero] at H
        clear e
        go_wp2_with (go_at_call 55; refine (refAdd_any _ _ _).mono ?_; rintro e w' ⟨rfl, rfl⟩)
        go_round
        case rel => exact ⟨k + 1, by omega, by go_num, by rw [H.out]⟩
        case measure => simp [intOf]; omega
    · have H : Hid (foldV (wsum zs k) = csum zs) := by unfold csum; rw [hI.1, show (len + 1) / 2 = k from by omega]; trivial
      go_wp2
      go_ret
      exact ⟨ret_int H.out, rfl⟩

set_option maxHeartbeats 400000 in
theorem of_any (A : Option Addr) (len cap : Nat) (zs : List UInt8) (hlen : len ≤ 140737488351232) (w : World) (hI : Byt w w.heap.size A len zs) :
    Calls Try.prog 48 #[.slice A len cap] w fun e W' => e = .returned (.int .i64 (65535 - csum zs)) ∧ Below w.heap.size w W' := by
  have s1 := csum_lo zs
  have s2 := csum_hi zs
  go_enter Try.func48, Try.ntmps48
  go_wp2_with (go_at_call 59; refine (sum_any _ _ _ zs hlen _ hI).mono ?_; rintro e w' ⟨rfl, hb⟩)
  go_ret
  exact ⟨ret_int (by omega), hb⟩
set_option maxHeartbeats 400000 in
theorem refOf_any (A : Option Addr) (len cap : Nat) (zs : List UInt8) (hlen : len ≤ 140737488351232) (w : World) (hI : Byt w w.heap.size A len zs) :
    Calls Try.prog 27 #[.slice A len cap] w fun e w' => e = .returned (.int .i64 (65535 - csum zs)) ∧ w = w' := by
  have s1 := csum_lo zs
  have s2 := csum_hi zs
  go_enter Try.func27, Try.ntmps27
  go_wp2_with (go_at_call 36; refine (refSum_any _ _ _ zs hlen _ hI).mono ?_; rintro e w' ⟨rfl, rfl⟩)
  go_ret
  exact ⟨rfl, rfl⟩
set_option maxHeartbeats 400000 in
theorem good_any (A : Option Addr) (len cap : Nat) (zs : List UInt8) (hlen : len ≤ 140737488351232) (w : World) (hI : Byt w w.heap.size A len zs) :
    Calls Try.prog 51 #[.slice A len cap] w fun e W' => e = .returned (.bool (csum zs == 65535)) ∧ Below w.heap.size w W' := by
  go_enter Try.func51, Try.ntmps51
  go_wp2_with (go_at_call 59; refine (sum_any _ _ _ zs hlen _ hI).mono ?_; rintro e w' ⟨rfl, hb⟩)
  go_ret
  exact ⟨rfl, hb⟩

end Go.Proofs.Ytlkammmadchjnaa
