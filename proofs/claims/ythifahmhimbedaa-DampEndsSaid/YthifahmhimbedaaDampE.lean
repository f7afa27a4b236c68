/- damp: the law DampEnds. -/
import Derived.Test.YthifahmhimbedaaDampT
namespace Go.Proofs.Ythifahmhimbedaa
set_option linter.unusedVariables false
open Go.RowKit

set_option maxHeartbeats 2000000 in
theorem ends_walk (F S R C H a : Int) (w : World) (a1 : 0 ≤ a) (a2 : a ≤ 255) :
    Calls Try.prog 5 #[.agg #[.int .i64 F, .int .i64 S, .int .i64 R, .int .i64 C, .int .i64 H], .int .u8 a] w fun e w' => e = .returned (.bool true) ∧ Below w.heap.size w w' := by
  have hk0 := Blk.new w 26 #[.int .i64 F, .int .i64 S, .int .i64 R, .int .i64 C, .int .i64 H]
  have hB0 := (Below.refl w.heap.size w).alloc (Nat.le_refl _) (.cells #[.int .i64 F, .int .i64 S, .int .i64 R, .int .i64 C, .int .i64 H] 26)
  by_cases h : goodR F S R C H = true
  · have HH := Lib.hid h
    obtain ⟨q1, q2, q3, q4, q5, q6, q7, q8, q9, q10⟩ := of_decide_eq_true h
    clear h
    by_cases hlim : 500 < H ∨ 100000 < C
    · have hl2 : 500 < H ∨ (H ≤ 500 ∧ 100000 < C) := by omega
      clear hlim
      rcases hl2 with l1 | ⟨l1, l2⟩
      all_goals
        go_enter Try.func5, Try.ntmps5
        go_wp2_with fail
        refine (good_yes F S R C H _ HH.out).mono ?_
        rintro e w2 ⟨rfl, hx⟩
        have hk := hk0.below hx hk0.lt
        have hB := hB0.trans (hx.mono hB0.size)
        have c3 := hk.cellv 3 (v := .int .i64 C) rfl
        have c4 := hk.cellv 4 (v := .int .i64 H) rfl
        clear hk0 hB0 hx hk
        go_wp2_with (go_at_call 10; refine (lives_any _).mono ?_; rintro e w' ⟨rfl, hx⟩)
        go_ret
        exact ⟨rfl, hB.trans (hx.mono hB.size)⟩
    · have l1 : H ≤ 500 := by omega
      have l2 : C ≤ 100000 := by omega
      have hT := ticks_le R H C q5
      clear hlim
      go_enter Try.func5, Try.ntmps5
      go_wp2_with fail
      generalize (w.alloc (.cells #[.int .i64 F, .int .i64 S, .int .i64 R, .int .i64 C, .int .i64 H] 26)) = w1 at *
      refine (good_yes F S R C H _ HH.out).mono ?_
      rintro e w2 ⟨rfl, hx⟩
      have hk := hk0.below hx hk0.lt
      have hB := hB0.trans (hx.mono hB0.size)
      clear hk0 hB0 hx
      have c0 := hk.cellv 0 (v := .int .i64 F) rfl
      have c1 := hk.cellv 1 (v := .int .i64 S) rfl
      have c2 := hk.cellv 2 (v := .int .i64 R) rfl
      have c3 := hk.cellv 3 (v := .int .i64 C) rfl
      have c4 := hk.cellv 4 (v := .int .i64 H) rfl
      go_wp2_with fail
      refine (new_yes F S R C H _ HH.out).mono ?_
      rintro e w3 ⟨g, rfl, hg, hb, hx⟩
      have hgn : w.heap.size < g := Nat.lt_of_lt_of_le hk.lt hg
      have hk := hk.below hx hk.lt
      have hB := hB.trans (hx.mono hB.size)
      clear hx c0 c1 c2 c3 c4
      go_wp2_with fail
      go_loopw [6] (fun i wr => ∃ (k : Nat) (p : Int) (hh : Bool), k ≤ 40 ∧ i = .int .u8 k ∧ 0 ≤ p ∧ p ≤ C ∧ Hid (hh = true → R < p) ∧ Blk wr g 36 (dampCs F S R C H p hh) ∧ Blk wr w.heap.size 26 #[.int .i64 F, .int .i64 S, .int .i64 R, .int .i64 C, .int .i64 H] ∧ Below w.heap.size w wr) (fun i _ => 41 - (intOf i).toNat)
      case atStart => exact ⟨0, 0, false, by omega, rfl, by omega, by omega, (fun h => by cases h), hb, hk, hB⟩
      case round =>
        obtain ⟨k, p, hh, hk40, rfl, p1, p2, hR, hb, hk, hB⟩ := hrel
        by_cases c : (k : Int) < a % 40
        · go_wp2_with fail
          refine (flap_any F S R C H p hh g _ (by omega) (by omega) (by omega) (by omega) hb).mono ?_
          rintro e w4 ⟨rfl, hb, hx⟩
          have hk := hk.grown hx (by intro e; injection e with e; omega)
          have hB := below_own hB hx hB.size (by omega)
          have d1 : 0 ≤ lowest (p + F) C ∧ lowest (p + F) C ≤ C ∧ p ≤ lowest (p + F) C := by unfold lowest; split <;> omega
          obtain ⟨d1, d2, d3⟩ := d1
          have hR2 : Hid ((hh || decide (S ≤ lowest (p + F) C)) = true → R < lowest (p + F) C) := by
            intro h
            by_cases e : S ≤ lowest (p + F) C
            · omega
            · have := hR.out (by simpa [e] using h); omega
          generalize lowest (p + F) C = q at *
          have c1 := hk.cellv 1 (v := .int .i64 S) rfl
          have c3 := hk.cellv 3 (v := .int .i64 C) rfl
          have hcase : ∃ h2 : Bool, (hh || decide (S ≤ q)) = h2 ∧ ((h2 = true ∧ decide (S ≤ q) = true) ∨ (h2 = true ∧ decide (S ≤ q) = false) ∨ (h2 = false ∧ decide (S ≤ q) = false)) := by
            refine ⟨_, rfl, ?_⟩
            by_cases e : S ≤ q
            · exact .inl ⟨by simp [e], by simp [e]⟩
            · cases hh
              · exact .inr (.inr ⟨by simp; omega, by simp; omega⟩)
              · exact .inr (.inl ⟨by simp, by simp; omega⟩)
          obtain ⟨h2, e2, hc2⟩ := hcase
          rw [e2] at hb hR2
          clear e2
          go_wp2_with fail
          rcases hc2 with ⟨rfl, hc⟩ | ⟨rfl, hc⟩ | ⟨rfl, hc⟩
          all_goals
            go_quiet ((go_at_call 16; exact quiet_left (held_any F S R C H q _ g _ (by omega) hb)))
            go_wp2_with fail
            go_roundw
            case rel => exact ⟨k + 1, q, _, by omega, by go_num, d1, d2, hR2, hb, hk, below_drewN hB _⟩
            case measure => simp [intOf]; omega
        · have p3 := ticks_mono R H p C q5 p2
          go_wp2_with fail
          refine (held_any F S R C H p hh g _ (by omega) hb).mono ?_
          rintro e w' ⟨rfl, rfl⟩
          clear c hk40
          go_wp2_with fail
          go_loopw [9] (fun n wr => ∃ (k : Nat) (p : Int) (h2 : Bool), n = .int .i64 k ∧ 0 ≤ p ∧ p ≤ C ∧ k + ticks R H p ≤ ticks R H C ∧ Hid (h2 = true → R < p) ∧ Hid (hh = false → k = 0 ∧ h2 = false) ∧ Blk wr g 36 (dampCs F S R C H p h2) ∧ Blk wr w.heap.size 26 #[.int .i64 F, .int .i64 S, .int .i64 R, .int .i64 C, .int .i64 H] ∧ Below w.heap.size w wr) (fun n _ => (ticks R H C) + 1 - (intOf n).toNat)
          case atStart => exact ⟨0, p, hh, rfl, p1, p2, by omega, hR, (fun h => ⟨rfl, h⟩), hb, hk, hB⟩
          case round =>
            obtain ⟨k, p, h2, rfl, p1, p2, hkt, hR, hW, hb, hk, hB⟩ := hrel
            go_wp2_with fail
            refine (held_any F S R C H p h2 g _ (by omega) hb).mono ?_
            rintro e w' ⟨rfl, rfl⟩
            have c0 := hk.cellv 0 (v := .int .i64 F) rfl
            have c1 := hk.cellv 1 (v := .int .i64 S) rfl
            have c2 := hk.cellv 2 (v := .int .i64 R) rfl
            have c3 := hk.cellv 3 (v := .int .i64 C) rfl
            have c4 := hk.cellv 4 (v := .int .i64 H) rfl
            cases h2 with
            | true =>
              have hRp := hR.out rfl
              have hst := ticks_step R H p q5 hRp
              have hkt2 : k + 1 + ticks R H (decay p H) ≤ ticks R H C := by omega
              clear hst
              go_wp2_with fail
              refine (ticks_yes F S R C H _ HH.out).mono ?_
              rintro e w5 ⟨rfl, hx⟩
              have hb := hb.below hx hb.lt
              have hk := hk.below hx hk.lt
              have hB := hB.trans (hx.mono hB.size)
              clear hx c0 c1 c2 c3 c4
              have hkt3 : k ≤ ticks R H C := by omega
              go_wp2_with fail
              refine (tick_any F S R C H p true g _ (by omega) p1 (by omega) hb).mono ?_
              rintro e w6 ⟨rfl, hb, hx⟩
              have hk := hk.grown hx (by intro e; injection e with e; omega)
              have hB := below_own hB hx hB.size (by omega)
              have d1 := decay_lo p H
              have d2 := decay_lt p H (by omega)
              have c2 := hk.cellv 2 (v := .int .i64 R) rfl
              generalize decay p H = q at *
              rw [Bool.true_and] at hb
              obtain ⟨h3, e3⟩ : ∃ h3, decide (R < q) = h3 := ⟨_, rfl⟩
              rw [e3] at hb
              have hR3 : Hid (h3 = true → R < q) := by intro h; rw [← e3] at h; simpa using h
              go_wp2_with fail
              go_quiet ((go_at_call 16; exact quiet_left (held_any F S R C H q h3 g _ (by omega) hb)))
              clear e3
              cases h3
              all_goals
                go_wp2_with fail
                go_roundw
                case rel => exact ⟨k + 1, q, _, by go_num, d1, by omega, hkt2, hR3, (fun h => absurd (hW.out h).2 (by simp)), hb, hk, below_drewN hB _⟩
                case measure => simp [intOf]; omega
            | false =>
              have hkt3 : k ≤ ticks R H C := by omega
              go_wp2_with fail
              refine (held_any F S R C H p false g _ (by omega) hb).mono ?_
              rintro e w' ⟨rfl, rfl⟩
              go_wp2_with fail
              refine (ticks_yes F S R C H _ HH.out).mono ?_
              rintro e w5 ⟨rfl, hx⟩
              have hB := hB.trans (hx.mono hB.size)
              clear hx c0 c1 c2 c3 c4
              cases hh with
              | true =>
                go_wp2_with (go_at_call 10; refine (lives_any _).mono ?_; rintro e w' ⟨rfl, hx⟩)
                go_ret
                exact ⟨rfl, hB.trans (hx.mono hB.size)⟩
              | false =>
                obtain ⟨rfl, _⟩ := hW.out rfl
                go_wp2_with (go_at_call 10; refine (lives_any _).mono ?_; rintro e w' ⟨rfl, hx⟩)
                go_ret
                exact ⟨rfl, hB.trans (hx.mono hB.size)⟩
  · have HH := Lib.hid (show goodR F S R C H = false by simpa using h)
    clear h
    go_enter Try.func5, Try.ntmps5
    go_wp2_with fail
    refine (good_no F S R C H _ HH.out).mono ?_
    rintro e w2 ⟨rfl, hx⟩
    have hB := hB0.trans (hx.mono hB0.size)
    clear hk0 hB0 hx
    go_wp2_with (go_at_call 10; refine (lives_any _).mono ?_; rintro e w' ⟨rfl, hx⟩)
    go_ret
    exact ⟨rfl, hB.trans (hx.mono hB.size)⟩

theorem ends_law (l : List Int) (a : Int) (w : World) (hl : l.length = 5) (_hw : ∀ z ∈ l, (Lit.int .i64 z).wf = true) (ha : (Lit.int .u8 a).wf = true) :
    Calls Try.prog 5 #[.agg (l.map (Value.int .i64)).toArray, .int .u8 a] w fun e w' => e = .returned (.bool true) ∧ Below w.heap.size w w' := by
  obtain ⟨a1, a2⟩ := bounds_u8 ha
  match l, hl with
  | [F, S, R, C, H], _ => exact ends_walk F S R C H a w a1 a2
end Go.Proofs.Ythifahmhimbedaa
