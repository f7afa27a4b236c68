/- damp: Ticks, and the laws DampTicks, DampNone. -/
import Derived.Test.YthifahmhimbedaaDampR
namespace Go.Proofs.Ythifahmhimbedaa
set_option linter.unusedVariables false
open Go.RowKit

/-- how many ticks from p down to R, in at most so many. -/
def tk (R H : Int) : Nat → Int → Nat
  | 0, _ => 0
  | f + 1, p => if R < p then tk R H f (decay p H) + 1 else 0
theorem tk_more (R H : Int) (hR : 0 ≤ R) : ∀ (f : Nat) (p : Int), p ≤ f → tk R H (f + 1) p = tk R H f p := by
  intro f
  induction f with
  | zero => intro p hp; simp only [tk]; rw [if_neg (by omega)]
  | succ f ih =>
    intro p hp
    show (if R < p then tk R H (f + 1) (decay p H) + 1 else 0) = (if R < p then tk R H f (decay p H) + 1 else 0)
    by_cases c : R < p
    · rw [if_pos c, if_pos c, ih]
      have := decay_lt p H (by omega); omega
    · rw [if_neg c, if_neg c]
theorem tk_enough (R H : Int) (hR : 0 ≤ R) (p : Int) (f : Nat) (hp : p ≤ f) : tk R H f p = tk R H p.toNat p := by
  have key : ∀ k : Nat, tk R H (p.toNat + k) p = tk R H p.toNat p := by
    intro k
    induction k with
    | zero => rfl
    | succ k ih => rw [← Nat.add_assoc, tk_more R H hR _ p (by omega), ih]
  have := key (f - p.toNat)
  rw [show p.toNat + (f - p.toNat) = f from by omega] at this
  exact this
/-- how many ticks from p on. -/
def ticks (R H p : Int) : Nat := tk R H p.toNat p
theorem ticks_step (R H p : Int) (hR : 0 ≤ R) (h : R < p) : ticks R H p = ticks R H (decay p H) + 1 := by
  unfold ticks
  obtain ⟨f, hf⟩ : ∃ f, p.toNat = f + 1 := ⟨p.toNat - 1, by omega⟩
  rw [hf, tk, if_pos h, tk_enough R H hR (decay p H) f]
  have := decay_lt p H (by omega); omega
theorem ticks_end (R H p : Int) (h : p ≤ R) : ticks R H p = 0 := by
  unfold ticks
  cases p.toNat with
  | zero => rfl
  | succ f => rw [tk, if_neg (by omega)]
theorem ticks_le (R H p : Int) (hR : 0 ≤ R) : ticks R H p ≤ p.toNat := by
  have key : ∀ (n : Nat) (p : Int), p.toNat ≤ n → ticks R H p ≤ p.toNat := by
    intro n
    induction n with
    | zero => intro p hp; rw [ticks_end R H p (by omega)]; omega
    | succ n ih =>
      intro p hp
      by_cases c : R < p
      · have h1 := decay_lt p H (by omega)
        have h2 := decay_lo p H
        have h3 := ih (decay p H) (by omega)
        rw [ticks_step R H p hR c]; omega
      · rw [ticks_end R H p (by omega)]; omega
  exact key _ p (Nat.le_refl _)
theorem ticks_mono (R H p q : Int) (hR : 0 ≤ R) (hpq : p ≤ q) : ticks R H p ≤ ticks R H q := by
  have key : ∀ (n : Nat) (p q : Int), p.toNat ≤ n → p ≤ q → ticks R H p ≤ ticks R H q := by
    intro n
    induction n with
    | zero => intro p q hp hpq; rw [ticks_end R H p (by omega)]; omega
    | succ n ih =>
      intro p q hp hpq
      by_cases c : R < p
      · have h1 := decay_lt p H (by omega)
        have h2 := decay_lo p H
        have h3 := ih (decay p H) (decay q H) (by omega) (decay_mono p q H hpq)
        rw [ticks_step R H p hR c, ticks_step R H q hR (by omega)]; omega
      · rw [ticks_end R H p (by omega)]; omega
  exact key _ p q (Nat.le_refl _) hpq

set_option maxHeartbeats 1000000 in
theorem ticks_yes (F S R C H : Int) (w : World) (h : goodR F S R C H = true) :
    Calls Try.prog 11 #[.agg #[.int .i64 F, .int .i64 S, .int .i64 R, .int .i64 C, .int .i64 H]] w fun e w' => e = .returned (.int .i64 (ticks R H C : Nat)) ∧ Below w.heap.size w w' := by
  obtain ⟨_, _, _, _, h5, h6, h7, h8, _, _⟩ := of_decide_eq_true h
  have HH := Lib.hid h
  clear h
  have hlim := ticks_le R H C h5
  go_enter Try.func11, Try.ntmps11
  go_wp2_with fail
  refine (good_yes F S R C H _ HH.out).mono ?_
  rintro e w1 ⟨rfl, hb⟩
  have hk := (Blk.new w 26 #[.int .i64 F, .int .i64 S, .int .i64 R, .int .i64 C, .int .i64 H]).below hb (by simp)
  have c2 := hk.cellv 2 (v := .int .i64 R) rfl
  have c3 := hk.cellv 3 (v := .int .i64 C) rfl
  have c4 := hk.cellv 4 (v := .int .i64 H) rfl
  have HB : Hid (Below w.heap.size w w1) := ((Below.refl _ _).alloc (Nat.le_refl _) _).trans (hb.mono (by simp))
  clear hk hb
  go_wp2_with fail
  go_loop [3, 4] (fun n p => ∃ (k : Nat) (q : Int), q ≤ C ∧ 0 ≤ q ∧ k + ticks R H q = ticks R H C ∧ n = .int .i64 k ∧ p = .int .i64 q) (fun _ p => (intOf p).toNat)
  case atStart => exact ⟨0, C, Int.le_refl _, by omega, Nat.zero_add _, rfl, rfl⟩
  case round =>
    obtain ⟨k, q, q1, q2, hq, rfl, rfl⟩ := hrel
    have hk : k ≤ ticks R H C := by omega
    have HQ := Lib.hid hq
    clear hq
    by_cases c : R < q
    · have l1 := decay_lt q H (by omega)
      have l2 := decay_lo q H
      go_wp2_with (go_at_call 8; refine (decay_any _ _ _ (by omega) (by omega)).mono ?_; rintro e w' ⟨rfl, rfl⟩)
      go_round
      case rel => exact ⟨k + 1, decay q H, by omega, by omega, by rw [← HQ.out, ticks_step R H q h5 c]; omega, by go_num, rfl⟩
      case measure => simp [intOf]; omega
    · have HE : Hid ((k : Int) = (ticks R H C : Nat)) := by rw [← HQ.out, ticks_end R H q (by omega)]; rfl
      go_wp2_with fail
      go_ret
      exact ⟨by rw [← HE.out]; rfl, HB.out⟩

set_option maxHeartbeats 1000000 in
theorem refTicks_yes (F S R C H : Int) (w : World) (h : goodR F S R C H = true) :
    Calls Try.prog 12 #[.agg #[.int .i64 F, .int .i64 S, .int .i64 R, .int .i64 C, .int .i64 H]] w fun e w' => e = .returned (.int .i64 (ticks R H C : Nat)) ∧ Below w.heap.size w w' := by
  obtain ⟨_, _, _, _, h5, h6, h7, h8, _, _⟩ := of_decide_eq_true h
  have HH := Lib.hid h
  clear h
  have hlim := ticks_le R H C h5
  go_enter Try.func12, Try.ntmps12
  go_wp2_with fail
  refine (refGood_any F S R C H _).mono ?_
  rintro e w1 ⟨rfl, hb⟩
  rw [HH.out]
  have hk := (Blk.new w 29 #[.int .i64 F, .int .i64 S, .int .i64 R, .int .i64 C, .int .i64 H]).below hb (by simp)
  have c2 := hk.cellv 2 (v := .int .i64 R) rfl
  have c3 := hk.cellv 3 (v := .int .i64 C) rfl
  have c4 := hk.cellv 4 (v := .int .i64 H) rfl
  have HB : Hid (Below w.heap.size w w1) := ((Below.refl _ _).alloc (Nat.le_refl _) _).trans (hb.mono (by simp))
  clear hk hb
  go_wp2_with fail
  go_loop [3, 4] (fun n p => ∃ (k : Nat) (q : Int), q ≤ C ∧ 0 ≤ q ∧ k + ticks R H q = ticks R H C ∧ n = .int .i64 k ∧ p = .int .i64 q) (fun _ p => (intOf p).toNat)
  case atStart => exact ⟨0, C, Int.le_refl _, by omega, Nat.zero_add _, rfl, rfl⟩
  case round =>
    obtain ⟨k, q, q1, q2, hq, rfl, rfl⟩ := hrel
    have hk : k ≤ ticks R H C := by omega
    have HQ := Lib.hid hq
    clear hq
    by_cases c : R < q
    · have l1 := decay_lt q H (by omega)
      have l2 := decay_lo q H
      go_wp2_with (go_at_call 9; refine (refDecay_any _ _ _ (by omega) (by omega)).mono ?_; rintro e w' ⟨rfl, rfl⟩)
      go_round
      case rel => exact ⟨k + 1, decay q H, by omega, by omega, by rw [← HQ.out, ticks_step R H q h5 c]; omega, by go_num, rfl⟩
      case measure => simp [intOf]; omega
    · have HE : Hid ((k : Int) = (ticks R H C : Nat)) := by rw [← HQ.out, ticks_end R H q (by omega)]; rfl
      go_wp2_with fail
      go_ret
      exact ⟨by rw [← HE.out]; rfl, HB.out⟩

set_option maxHeartbeats 400000 in
theorem ticks_no (F S R C H : Int) (w : World) (h : goodR F S R C H = false) :
    Calls Try.prog 11 #[.agg #[.int .i64 F, .int .i64 S, .int .i64 R, .int .i64 C, .int .i64 H]] w fun e w' => e = .returned (.int .i64 0) ∧ Below w.heap.size w w' := by
  have HH := Lib.hid h
  clear h
  go_enter Try.func11, Try.ntmps11
  go_wp2_with fail
  refine (good_no F S R C H _ HH.out).mono ?_
  rintro e w1 ⟨rfl, hb⟩
  have hB : Below w.heap.size w w1 := ((Below.refl _ _).alloc (Nat.le_refl _) _).trans (hb.mono (by simp))
  clear hb
  go_wp2_with fail
  go_ret
  exact ⟨rfl, hB⟩
set_option maxHeartbeats 400000 in
theorem refTicks_no (F S R C H : Int) (w : World) (h : goodR F S R C H = false) :
    Calls Try.prog 12 #[.agg #[.int .i64 F, .int .i64 S, .int .i64 R, .int .i64 C, .int .i64 H]] w fun e w' => e = .returned (.int .i64 0) ∧ Below w.heap.size w w' := by
  have HH := Lib.hid h
  clear h
  go_enter Try.func12, Try.ntmps12
  go_wp2_with fail
  refine (refGood_any F S R C H _).mono ?_
  rintro e w1 ⟨rfl, hb⟩
  rw [HH.out]
  have hB : Below w.heap.size w w1 := ((Below.refl _ _).alloc (Nat.le_refl _) _).trans (hb.mono (by simp))
  clear hb
  go_wp2_with fail
  go_ret
  exact ⟨rfl, hB⟩

set_option maxHeartbeats 1000000 in
theorem ticks_walk (F S R C H : Int) (w : World) :
    Calls Try.prog 4 #[.agg #[.int .i64 F, .int .i64 S, .int .i64 R, .int .i64 C, .int .i64 H]] w fun e w' => e = .returned (.bool true) ∧ Below w.heap.size w w' := by
  have hb0 := Blk.new w 26 #[.int .i64 F, .int .i64 S, .int .i64 R, .int .i64 C, .int .i64 H]
  have hB0 := (Below.refl w.heap.size w).alloc (Nat.le_refl _) (.cells #[.int .i64 F, .int .i64 S, .int .i64 R, .int .i64 C, .int .i64 H] 26)
  by_cases h : goodR F S R C H = true
  · have HH := Lib.hid h
    obtain ⟨_, _, _, _, h5, h6, h7, h8, _, _⟩ := of_decide_eq_true h
    have hpos : 0 < ticks R H C := by rw [ticks_step R H C h5 (by omega)]; omega
    clear h
    go_enter Try.func4, Try.ntmps4
    go_wp2_with fail
    generalize (w.alloc (.cells #[.int .i64 F, .int .i64 S, .int .i64 R, .int .i64 C, .int .i64 H] 26)) = w1 at *
    have hb := hb0.drew
    have hB := hB0.drew
    go_region_held3 (fun w' => w'.cell? ⟨w.heap.size, 0, none⟩ = some (.int .i64 F) ∧ w'.cell? ⟨w.heap.size, 1, none⟩ = some (.int .i64 S) ∧ w'.cell? ⟨w.heap.size, 2, none⟩ = some (.int .i64 R) ∧ w'.cell? ⟨w.heap.size, 3, none⟩ = some (.int .i64 C) ∧ w'.cell? ⟨w.heap.size, 4, none⟩ = some (.int .i64 H)) (exact ⟨hb.cellv 0 rfl, hb.cellv 1 rfl, hb.cellv 2 rfl, hb.cellv 3 rfl, hb.cellv 4 rfl⟩)
      (first
        | (go_at_call 11; refine (ticks_yes F S R C H _ HH.out).mono ?_; rintro e w' ⟨rfl, hx⟩; have hb := hb.below hx hb.lt; have hB := hB.trans (hx.mono hB.size); clear hx)
        | (go_at_call 12; refine (refTicks_yes F S R C H _ HH.out).mono ?_; rintro e w' ⟨rfl, hx⟩; have hb := hb.below hx hb.lt; have hB := hB.trans (hx.mono hB.size); clear hx)
        | (go_at_call 13; refine (good_yes F S R C H _ HH.out).mono ?_; rintro e w' ⟨rfl, hx⟩; have hb := hb.below hx hb.lt; have hB := hB.trans (hx.mono hB.size); clear hx)
        | (go_at_call 10; refine (lives_any _).mono ?_; rintro e w' ⟨rfl, hx⟩; have hb := hb.below hx hb.lt; have hB := hB.trans (hx.mono hB.size); clear hx))
    all_goals go_wp2
    all_goals go_ret
    all_goals exact ⟨rfl, hB⟩
  · have HH := Lib.hid (show goodR F S R C H = false by simpa using h)
    clear h
    go_enter Try.func4, Try.ntmps4
    go_wp2_with fail
    generalize (w.alloc (.cells #[.int .i64 F, .int .i64 S, .int .i64 R, .int .i64 C, .int .i64 H] 26)) = w1 at *
    have hb := hb0.drew
    have hB := hB0.drew
    go_region_held3 (fun w' => w'.cell? ⟨w.heap.size, 0, none⟩ = some (.int .i64 F) ∧ w'.cell? ⟨w.heap.size, 1, none⟩ = some (.int .i64 S) ∧ w'.cell? ⟨w.heap.size, 2, none⟩ = some (.int .i64 R) ∧ w'.cell? ⟨w.heap.size, 3, none⟩ = some (.int .i64 C) ∧ w'.cell? ⟨w.heap.size, 4, none⟩ = some (.int .i64 H)) (exact ⟨hb.cellv 0 rfl, hb.cellv 1 rfl, hb.cellv 2 rfl, hb.cellv 3 rfl, hb.cellv 4 rfl⟩)
      (first
        | (go_at_call 11; refine (ticks_no F S R C H _ HH.out).mono ?_; rintro e w' ⟨rfl, hx⟩; have hb := hb.below hx hb.lt; have hB := hB.trans (hx.mono hB.size); clear hx)
        | (go_at_call 12; refine (refTicks_no F S R C H _ HH.out).mono ?_; rintro e w' ⟨rfl, hx⟩; have hb := hb.below hx hb.lt; have hB := hB.trans (hx.mono hB.size); clear hx)
        | (go_at_call 13; refine (good_no F S R C H _ HH.out).mono ?_; rintro e w' ⟨rfl, hx⟩; have hb := hb.below hx hb.lt; have hB := hB.trans (hx.mono hB.size); clear hx)
        | (go_at_call 10; refine (lives_any _).mono ?_; rintro e w' ⟨rfl, hx⟩; have hb := hb.below hx hb.lt; have hB := hB.trans (hx.mono hB.size); clear hx))
    all_goals go_wp2
    all_goals go_ret
    all_goals exact ⟨rfl, hB⟩

theorem ticks_law (l : List Int) (w : World) (hl : l.length = 5) (_hw : ∀ z ∈ l, (Lit.int .i64 z).wf = true) :
    Calls Try.prog 4 #[.agg (l.map (Value.int .i64)).toArray] w fun e w' => e = .returned (.bool true) ∧ Below w.heap.size w w' := by
  match l, hl with
  | [F, S, R, C, H], _ => exact ticks_walk F S R C H w
end Go.Proofs.Ythifahmhimbedaa
