/- damp: Decay, Good, New, made. -/
import Derived.Test.YtgdeecmhhbdjgaaRows
import Derived.Test.YtgdeecmhhbdjgaaLib
namespace Go.Proofs.Ytgdeecmhhbdjgaa.dm
set_option linter.unusedVariables false
open Go.RowKit

/-- what is left of a penalty behind a tick. -/
def decay (p h : Int) : Int := if p < 1 ∨ h < 1 then 0 else p - p / h / 2 - 1

theorem half_step (p h : Int) (hp : 1 ≤ p) (hh : 1 ≤ h) : 0 ≤ p / h ∧ p / h ≤ p := by
  refine ⟨Int.ediv_nonneg (by omega) (by omega), ?_⟩
  exact Int.ediv_le_self _ (by omega)
theorem decay_lo (p h : Int) : 0 ≤ decay p h := by
  unfold decay
  split
  · exact Int.le_refl _
  · have := half_step p h (by omega) (by omega); omega
theorem decay_lt (p h : Int) (hp : 0 < p) : decay p h < p := by
  unfold decay
  split
  · exact hp
  · have := half_step p h (by omega) (by omega); omega
theorem decay_le (p h : Int) (hp : 0 ≤ p) : decay p h ≤ p := by
  unfold decay
  split
  · exact hp
  · have := half_step p h (by omega) (by omega); omega
theorem div_grow (p q h : Int) (hp : 0 ≤ p) (hpq : p ≤ q) (hh : 1 ≤ h) : q / h ≤ p / h + (q - p) := by
  have e1 : q = p + (q - p) := by omega
  have h1 : (p + (q - p)) / h ≤ (p + h * (q - p)) / h := Int.ediv_le_ediv (by omega) (by
    have : 1 * (q - p) ≤ h * (q - p) := Int.mul_le_mul_of_nonneg_right hh (by omega)
    omega)
  rw [Int.add_mul_ediv_left _ _ (by omega : h ≠ 0)] at h1
  rw [← e1] at h1
  exact h1
theorem decay_mono (p q h : Int) (hpq : p ≤ q) : decay p h ≤ decay q h := by
  by_cases c : p < 1 ∨ h < 1
  · rw [show decay p h = 0 from if_pos c]; exact decay_lo q h
  · have c2 : ¬ (q < 1 ∨ h < 1) := by omega
    have := div_grow p q h (by omega) hpq (by omega)
    have h1 : p / h ≤ q / h := Int.ediv_le_ediv (by omega) hpq
    unfold decay
    rw [if_neg c, if_neg c2]
    omega

set_option maxHeartbeats 400000 in
theorem decay_any (p h : Int) (w : World) (p1 : -9223372036854775808 ≤ p) (p2 : p ≤ 9223372036854775807) :
    Calls Try.prog 59 #[.int .i64 p, .int .i64 h] w fun e w' => e = .returned (.int .i64 (decay p h)) ∧ w = w' := by
  by_cases c1 : p < 1
  · go_enter Try.func59, Try.ntmps59
    go_wp2
    go_ret
    exact ⟨by rw [show decay p h = 0 from if_pos (.inl c1)]; rfl, rfl⟩
  · by_cases c2 : h < 1
    · go_enter Try.func59, Try.ntmps59
      go_wp2
      go_ret
      exact ⟨by rw [show decay p h = 0 from if_pos (.inr c2)]; rfl, rfl⟩
    · obtain ⟨b1, b2⟩ := half_step p h (by omega) (by omega)
      have HE := Lib.hid (show decay p h = p - p / h / 2 - 1 from if_neg (by omega))
      go_enter Try.func59, Try.ntmps59
      go_wp2
      go_ret
      exact ⟨by rw [HE.out]; rfl, rfl⟩

set_option maxHeartbeats 400000 in
theorem refDecay_any (p h : Int) (w : World) (p1 : -9223372036854775808 ≤ p) (p2 : p ≤ 9223372036854775807) :
    Calls Try.prog 60 #[.int .i64 p, .int .i64 h] w fun e w' => e = .returned (.int .i64 (decay p h)) ∧ w = w' := by
  by_cases c1 : p < 1
  · go_enter Try.func60, Try.ntmps60
    go_wp2
    go_ret
    exact ⟨by rw [show decay p h = 0 from if_pos (.inl c1)]; rfl, rfl⟩
  · by_cases c2 : h < 1
    · go_enter Try.func60, Try.ntmps60
      go_wp2
      go_ret
      exact ⟨by rw [show decay p h = 0 from if_pos (.inr c2)]; rfl, rfl⟩
    · obtain ⟨b1, b2⟩ := half_step p h (by omega) (by omega)
      have HE := Lib.hid (show decay p h = p - p / h / 2 - 1 from if_neg (by omega))
      by_cases c3 : h ≤ p / 2
      · have e1 : p / h / 2 = p / (2 * h) := by rw [Int.ediv_ediv_of_nonneg (by omega), Int.mul_comm]
        have b3 : 0 ≤ p / (2 * h) := Int.ediv_nonneg (by omega) (by omega)
        have b4 : p / (2 * h) ≤ p := Int.ediv_le_self _ (by omega)
        rw [e1] at HE
        clear e1
        go_enter Try.func60, Try.ntmps60
        go_wp2
        go_ret
        exact ⟨by rw [HE.out]; rfl, rfl⟩
      · have e1 : p / h / 2 = 0 := by
          rw [Int.ediv_ediv_of_nonneg (by omega), Int.mul_comm]
          exact Int.ediv_eq_zero_of_lt (by omega) (by omega)
        rw [e1] at HE
        clear e1
        go_enter Try.func60, Try.ntmps60
        go_wp2
        go_ret
        exact ⟨by rw [HE.out, Int.sub_zero]; rfl, rfl⟩

/-- may a rule be? -/
def goodR (F S R C H : Int) : Bool := decide (1 ≤ F ∧ F ≤ 100000 ∧ 1 ≤ S ∧ S ≤ 1000000 ∧ 0 ≤ R ∧ R < S ∧ S ≤ C ∧ C ≤ 1000000 ∧ 1 ≤ H ∧ H ≤ 10000)

set_option maxHeartbeats 400000 in
theorem in_yes (n lo hi : Int) (w : World) (h1 : lo ≤ n) (h2 : n ≤ hi) :
    Calls Try.prog 39 #[.int .i64 n, .int .i64 lo, .int .i64 hi] w fun e w' => e = .returned (.bool true) ∧ w = w' := by
  go_enter Try.func39, Try.ntmps39
  go_wp2
  go_ret
  exact ⟨rfl, rfl⟩
set_option maxHeartbeats 400000 in
theorem in_no (n lo hi : Int) (w : World) (h : n < lo ∨ hi < n) :
    Calls Try.prog 39 #[.int .i64 n, .int .i64 lo, .int .i64 hi] w fun e w' => e = .returned (.bool false) ∧ w = w' := by
  by_cases c : n < lo
  · clear h
    go_enter Try.func39, Try.ntmps39
    go_wp2
    go_ret
    exact ⟨rfl, rfl⟩
  · have c2 : hi < n := by omega
    clear h
    go_enter Try.func39, Try.ntmps39
    go_wp2
    go_ret
    exact ⟨ret_bool (by simp; omega), rfl⟩

set_option maxHeartbeats 400000 in
theorem good_yes (F S R C H : Int) (w : World) (h : goodR F S R C H = true) :
    Calls Try.prog 19 #[.agg #[.int .i64 F, .int .i64 S, .int .i64 R, .int .i64 C, .int .i64 H]] w fun e w' => e = .returned (.bool true) ∧ Below w.heap.size w w' := by
  obtain ⟨h1, h2, h3, h4, h5, h6, h7, h8, h9, h10⟩ := of_decide_eq_true h
  clear h
  go_enter Try.func19, Try.ntmps19
  go_wp2_with (go_at_call 39; refine (in_yes _ _ _ _ (by omega) (by omega)).mono ?_; rintro e w' ⟨rfl, rfl⟩)
  go_ret
  exact ⟨rfl, (Below.refl _ _).alloc (Nat.le_refl _) _⟩
set_option maxHeartbeats 1000000 in
theorem good_no (F S R C H : Int) (w : World) (h : goodR F S R C H = false) :
    Calls Try.prog 19 #[.agg #[.int .i64 F, .int .i64 S, .int .i64 R, .int .i64 C, .int .i64 H]] w fun e w' => e = .returned (.bool false) ∧ Below w.heap.size w w' := by
  have h' := of_decide_eq_false h
  clear h
  by_cases c1 : 1 ≤ F ∧ F ≤ 100000
  · by_cases c2 : 1 ≤ S ∧ S ≤ 1000000
    · by_cases c3 : 0 ≤ R ∧ R ≤ S - 1
      · by_cases c4 : S ≤ C ∧ C ≤ 1000000
        · have c5 : H < 1 ∨ 10000 < H := by omega
          have C5 := Lib.hid c5
          clear h' c5
          obtain ⟨a1, a2⟩ := c1
          obtain ⟨b1, b2⟩ := c2
          obtain ⟨d1, d2⟩ := c3
          obtain ⟨e1, e2⟩ := c4
          go_enter Try.func19, Try.ntmps19
          go_wp2_with (first
            | (go_at_call 39; refine (in_yes _ _ _ _ (by omega) (by omega)).mono ?_; rintro e w' ⟨rfl, rfl⟩)
            | (go_at_call 39; refine (in_no _ _ _ _ C5.out).mono ?_; rintro e w' ⟨rfl, rfl⟩))
          go_ret
          exact ⟨rfl, (Below.refl _ _).alloc (Nat.le_refl _) _⟩
        · have c5 : C < S ∨ 1000000 < C := by omega
          have C5 := Lib.hid c5
          clear h' c5 c4
          obtain ⟨a1, a2⟩ := c1
          obtain ⟨b1, b2⟩ := c2
          obtain ⟨d1, d2⟩ := c3
          go_enter Try.func19, Try.ntmps19
          go_wp2_with (first
            | (go_at_call 39; refine (in_yes _ _ _ _ (by omega) (by omega)).mono ?_; rintro e w' ⟨rfl, rfl⟩)
            | (go_at_call 39; refine (in_no _ _ _ _ C5.out).mono ?_; rintro e w' ⟨rfl, rfl⟩))
          go_ret
          exact ⟨rfl, (Below.refl _ _).alloc (Nat.le_refl _) _⟩
      · have c5 : R < 0 ∨ S - 1 < R := by omega
        have C5 := Lib.hid c5
        clear h' c5 c3
        obtain ⟨a1, a2⟩ := c1
        obtain ⟨b1, b2⟩ := c2
        go_enter Try.func19, Try.ntmps19
        go_wp2_with (first
          | (go_at_call 39; refine (in_yes _ _ _ _ (by omega) (by omega)).mono ?_; rintro e w' ⟨rfl, rfl⟩)
          | (go_at_call 39; refine (in_no _ _ _ _ C5.out).mono ?_; rintro e w' ⟨rfl, rfl⟩))
        go_ret
        exact ⟨rfl, (Below.refl _ _).alloc (Nat.le_refl _) _⟩
    · have c5 : S < 1 ∨ 1000000 < S := by omega
      have C5 := Lib.hid c5
      clear h' c5 c2
      obtain ⟨a1, a2⟩ := c1
      go_enter Try.func19, Try.ntmps19
      go_wp2_with (first
        | (go_at_call 39; refine (in_yes _ _ _ _ (by omega) (by omega)).mono ?_; rintro e w' ⟨rfl, rfl⟩)
        | (go_at_call 39; refine (in_no _ _ _ _ C5.out).mono ?_; rintro e w' ⟨rfl, rfl⟩))
      go_ret
      exact ⟨rfl, (Below.refl _ _).alloc (Nat.le_refl _) _⟩
  · have c5 : F < 1 ∨ 100000 < F := by omega
    have C5 := Lib.hid c5
    clear h' c5 c1
    go_enter Try.func19, Try.ntmps19
    go_wp2_with (go_at_call 39; refine (in_no _ _ _ _ C5.out).mono ?_; rintro e w' ⟨rfl, rfl⟩)
    go_ret
    exact ⟨rfl, (Below.refl _ _).alloc (Nat.le_refl _) _⟩

/-- a damp's cells. -/
def dampCs (F S R C H p : Int) (h : Bool) : Array Value := #[.int .i64 F, .int .i64 S, .int .i64 R, .int .i64 C, .int .i64 H, .int .i64 p, .bool h]

end Go.Proofs.Ytgdeecmhhbdjgaa.dm
