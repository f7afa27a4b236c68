/- The law ChkSeals: the walk. -/
import Derived.Test.YtmibakbfjljfmaaChkQ
namespace Go.Proofs.Ytmibakbfjljfmaa
set_option linter.unusedVariables false
open Go.RowKit
set_option maxHeartbeats 400000 in
theorem seals_walk (A : Option Addr) (n cap : Nat) (l : List UInt8) (u x : Int) (w : World) (_hl : n ≤ cap) (_hm : cap ≤ maxLen) (hI : Byt w w.heap.size A n l) (hu : (Lit.int .u64 u).wf = true) (hx : (Lit.int .u16 x).wf = true) :
    Calls Try.prog 4 #[.slice A n cap, .int .u64 u, .int .u16 x] w fun e w' => e = .returned (.bool true) ∧ Below w.heap.size w w' := by
  obtain ⟨u1, u2⟩ := bounds_u64 hu
  obtain ⟨x1, x2⟩ := bounds_u16 hx
  clear hu hx
  by_cases h0 : n = 0 ∨ 1000 < n
  · have hd : (decide ((n : Int) = 0) || decide (1000 < (n : Int))) = true := by simp; omega
    rcases h0 with h0 | h0
    · subst h0
      go_enter Try.func4, Try.ntmps4
      go_wp2_with (go_at_call 8; refine (lives_any _).mono ?_; rintro e w' ⟨rfl, hb⟩)
      go_ret
      exact ⟨rfl, hb⟩
    · go_enter Try.func4, Try.ntmps4
      go_wp2_with (go_at_call 8; refine (lives_any _).mono ?_; rintro e w' ⟨rfl, hb⟩)
      go_ret
      exact ⟨rfl, hb⟩
  · have h1 : 0 < n := by omega
    have h2 : n ≤ 1000 := by omega
    clear h0
    have hn0 : ((n : Int) == 0) = false := by simp; omega
    obtain ⟨j, hj, hjn⟩ : ∃ j : Nat, u % (n : Int) = j ∧ j < n := ⟨(u % n).toNat, by have := Int.emod_nonneg u (show (n : Int) ≠ 0 by omega); omega, by have := Int.emod_nonneg u (show (n : Int) ≠ 0 by omega); have := Int.emod_lt_of_pos u (show (0 : Int) < n by omega); omega⟩
    have hown0 : OwnB (w.alloc (.cells #[] 5)) w.heap.size (.slice (some ⟨w.heap.size, 0, none⟩) 0 0) 0 [] := OwnB.lit w [] (Nat.le_refl _) (by simp)
    go_enter Try.func4, Try.ntmps4
    go_wp2_with (first
      | (at_builtin; refine wpList_app _ rfl (.tmp 20) (.tmp 21) rfl w.heap.size _ 0 [] rfl hown0 w.heap.size A n cap l rfl (hI.alloc (Nat.le_refl _) _) (by omega) (by simp) ?_; intro v1 w1 hown1 hg1 _; have hb1 : Below w.heap.size w w1 := ((Below.refl _ _).alloc (Nat.le_refl _) _).trans (hown0.below_app hg1 (by simp)))
      | (at_builtin; refine wpList_app _ rfl (.tmp 22) (.tmp 23) rfl w.heap.size v1 (0 + n) ([] ++ l) rfl hown1 w.heap.size A n cap l rfl (hI.below hb1) (by omega) hb1.size ?_; intro v2 w2 hown2 hg2 _; have hb2 : Below w.heap.size w w2 := hb1.trans (hown1.below_app hg2 hb1.size); rw [Nat.zero_add, List.nil_append] at hown2; obtain ⟨g, c2, rfl, hg, hgs, hc2, _⟩ := hown2.form (by omega); have k0 := hown2.cell (2 * j) (by omega); have k1 := hown2.cell (2 * j + 1) (by omega); have f0 := hown2.free (2 * j); have f1 := hown2.free (2 * j + 1)))
    have hx2 : 2 * j + 1 < (l ++ l).length := by rw [List.length_append, hI.1]; omega
    have hown3 := hown2.putw j 0 0 (by omega) (by omega) (by omega) (by omega)
    have hb3 : Below w.heap.size w ((w2.setCell ⟨g, 2 * j, none⟩ (.int .u8 0)).setCell ⟨g, 2 * j + 1, none⟩ (.int .u8 0)) := (hb2.setCell (p := ⟨g, 2 * j, none⟩) hg _).setCell (p := ⟨g, 2 * j + 1, none⟩) hg _
    clear k0 k1 f0 f1 hown1 hown2 hb2 hb1 hg1 hg2 hown0
    have hsum : csum (putW (l ++ l) j 0 0) = foldV (rest (l ++ l) j) := by rw [csum_put _ _ _ _ hx2 (by omega) (by omega) (by omega) (by omega)]; exact congrArg foldV (by omega)
    refine (of_any _ _ _ (putW (l ++ l) j 0 0) (by omega) _ hown3.byt).mono ?_
    rintro e w4 ⟨rfl, hb4⟩
    have s1 := csum_lo (putW (l ++ l) j 0 0)
    have s2 := csum_hi (putW (l ++ l) j 0 0)
    have hown4 := hown3.below hb4
    have hb5 := hb3.trans (hb4.mono hb3.size)
    rw [hsum] at s1 s2 ⊢
    clear hown3 hb3 hb4 hsum
    obtain ⟨R, hR⟩ : ∃ R, rest (l ++ l) j = R := ⟨_, rfl⟩
    have hR0 : 0 ≤ R := by rw [← hR]; exact rest_lo _ _ hx2
    rw [hR] at s1 s2 ⊢
    obtain ⟨s, hs⟩ : ∃ s, s = 65535 - foldV R := ⟨_, rfl⟩
    rw [← hs]
    have s3 : 0 ≤ s := by omega
    have s4 : s ≤ 65535 := by omega
    have HS := Lib.hid hs
    have HR := Lib.hid hR
    clear hs hR s1 s2
    have k0 := hown4.cell (2 * j) (by omega)
    have k1 := hown4.cell (2 * j + 1) (by omega)
    have f0 := hown4.free (2 * j)
    have f1 := hown4.free (2 * j + 1)
    go_wp2_with fail
    have hown5 := hown4.putw j (s / 256) (s % 256) (by omega) (by omega) (by omega) (by omega)
    rw [putW_put _ _ _ _ _ _ hx2] at hown5
    have hb6 : Below w.heap.size w ((w4.setCell ⟨g, 2 * j, none⟩ (.int .u8 (s / 256))).setCell ⟨g, 2 * j + 1, none⟩ (.int .u8 (s % 256))) := (hb5.setCell (p := ⟨g, 2 * j, none⟩) hg _).setCell (p := ⟨g, 2 * j + 1, none⟩) hg _
    have e6 : (csum (putW (l ++ l) j (s / 256) (s % 256)) == 65535) = true := by
      rw [csum_put _ _ _ _ hx2 (by omega) (by omega) (by omega) (by omega), HR.out, show s / 256 * 256 + s % 256 = s from by omega, HS.out, seal_good R hR0]; rfl
    clear k0 k1 f0 f1 hown4 hb5
    refine (good_any _ _ _ (putW (l ++ l) j (s / 256) (s % 256)) (by omega) _ hown5.byt).mono ?_
    rintro e w6 ⟨rfl, hb7⟩
    rw [e6]
    have hown6 := hown5.below hb7
    have hb8 := hb6.trans (hb7.mono hb6.size)
    clear hown5 hb6 hb7 e6
    have k0 := hown6.cell (2 * j) (by omega)
    have k1 := hown6.cell (2 * j + 1) (by omega)
    have f0 := hown6.free (2 * j)
    have f1 := hown6.free (2 * j + 1)
    have hown7 := hown6.putw j (x / 256) (x % 256) (by omega) (by omega) (by omega) (by omega)
    rw [putW_put _ _ _ _ _ _ hx2] at hown7
    have hb9 : Below w.heap.size w ((w6.setCell ⟨g, 2 * j, none⟩ (.int .u8 (x / 256))).setCell ⟨g, 2 * j + 1, none⟩ (.int .u8 (x % 256))) := (hb8.setCell (p := ⟨g, 2 * j, none⟩) hg _).setCell (p := ⟨g, 2 * j + 1, none⟩) hg _
    have hbyt := hown7.byt
    have e8 : csum (putW (l ++ l) j (x / 256) (x % 256)) = foldV (R + x) := by
      rw [csum_put _ _ _ _ hx2 (by omega) (by omega) (by omega) (by omega), HR.out, show x / 256 * 256 + x % 256 = x from by omega]
    have e9 := seal_other R s x hR0 HS.out x1 x2
    rw [← e8] at e9
    have hcase : ((x == s) = true ∧ Hid ((csum (putW (l ++ l) j (x / 256) (x % 256)) == 65535) = true)) ∨
        ((x == s) = false ∧ (s == 0) = true ∧ (x == 65535) = true ∧ Hid ((csum (putW (l ++ l) j (x / 256) (x % 256)) == 65535) = true)) ∨
        ((x == s) = false ∧ (s == 0) = true ∧ (x == 65535) = false ∧ Hid ((csum (putW (l ++ l) j (x / 256) (x % 256)) == 65535) = false)) ∨
        ((x == s) = false ∧ (s == 0) = false ∧ Hid ((csum (putW (l ++ l) j (x / 256) (x % 256)) == 65535) = false)) := by
      by_cases c1 : x = s
      · exact .inl ⟨by simp [c1], e9.trans (by simp [c1])⟩
      · by_cases c2 : s = 0
        · by_cases c3 : x = 65535
          · exact .inr (.inl ⟨by simp [c1], by simp [c2], by simp [c3], e9.trans (by simp [c2, c3])⟩)
          · exact .inr (.inr (.inl ⟨by simp [c1], by simp [c2], by simp [c3], e9.trans (by rw [decide_eq_false_iff_not]; omega)⟩))
        · exact .inr (.inr (.inr ⟨by simp [c1], by simp [c2], e9.trans (by rw [decide_eq_false_iff_not]; omega)⟩))
    clear hown6 hown7 hb8 e8 e9 HS HR hR0 hx2
    rcases hcase with ⟨b1, HG⟩ | ⟨b1, b2, b3, HG⟩ | ⟨b1, b2, b3, HG⟩ | ⟨b1, b2, HG⟩
    all_goals
      go_wp2_with fail
      refine (good_any _ _ _ (putW (l ++ l) j (x / 256) (x % 256)) (by omega) _ hbyt).mono ?_
      rintro e w10 ⟨rfl, hb10⟩
      rw [HG.out]
      have hb11 := hb9.trans (hb10.mono hb9.size)
      clear hb9 hb10 HG hbyt k0 k1 f0 f1
      go_wp2_with (go_at_call 8; refine (lives_any _).mono ?_; rintro e w' ⟨rfl, hb⟩)
      go_ret
      exact ⟨rfl, hb11.trans (hb.mono hb11.size)⟩
end Go.Proofs.Ytmibakbfjljfmaa
