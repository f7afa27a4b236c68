/- The law ChkUpdates: the walk. -/
import Derived.Test.YtmibakbfjljfmaaChkQ
import Derived.Test.YtmibakbfjljfmaaChkC
namespace Go.Proofs.Ytmibakbfjljfmaa
set_option linter.unusedVariables false
open Go.RowKit
set_option maxHeartbeats 400000 in
theorem updates_walk (A : Option Addr) (n cap : Nat) (l : List UInt8) (u x : Int) (w : World) (_hl : n ≤ cap) (_hm : cap ≤ maxLen) (hI : Byt w w.heap.size A n l) (hu : (Lit.int .u64 u).wf = true) (hx : (Lit.int .u16 x).wf = true) :
    Calls Try.prog 6 #[.slice A n cap, .int .u64 u, .int .u16 x] w fun e w' => e = .returned (.bool true) ∧ Below w.heap.size w w' := by
  obtain ⟨u1, u2⟩ := bounds_u64 hu
  obtain ⟨x1, x2⟩ := bounds_u16 hx
  clear hu hx
  by_cases h0 : n = 0 ∨ 1000 < n
  · have hd : (decide ((n : Int) = 0) || decide (1000 < (n : Int))) = true := by simp; omega
    rcases h0 with h0 | h0
    · subst h0
      go_enter Try.func6, Try.ntmps6
      go_wp2_with (go_at_call 8; refine (lives_any _).mono ?_; rintro e w' ⟨rfl, hb⟩)
      go_ret
      exact ⟨rfl, hb⟩
    · go_enter Try.func6, Try.ntmps6
      go_wp2_with (go_at_call 8; refine (lives_any _).mono ?_; rintro e w' ⟨rfl, hb⟩)
      go_ret
      exact ⟨rfl, hb⟩
  · have h1 : 0 < n := by omega
    have h2 : n ≤ 1000 := by omega
    clear h0
    have hn0 : ((n : Int) == 0) = false := by simp; omega
    obtain ⟨j, hj, hjn⟩ : ∃ j : Nat, u % (n : Int) = j ∧ j < n := ⟨(u % n).toNat, by have := Int.emod_nonneg u (show (n : Int) ≠ 0 by omega); omega, by have := Int.emod_nonneg u (show (n : Int) ≠ 0 by omega); have := Int.emod_lt_of_pos u (show (0 : Int) < n by omega); omega⟩
    have hown0 : OwnB (w.alloc (.cells #[] 5)) w.heap.size (.slice (some ⟨w.heap.size, 0, none⟩) 0 0) 0 [] := OwnB.lit w [] (Nat.le_refl _) (by simp)
    go_enter Try.func6, Try.ntmps6
    go_wp2_with (first
      | (at_builtin; refine wpList_app _ rfl (.tmp 20) (.tmp 21) rfl w.heap.size _ 0 [] rfl hown0 w.heap.size A n cap l rfl (hI.alloc (Nat.le_refl _) _) (by omega) (by simp) ?_; intro v1 w1 hown1 hg1 _; have hb1 : Below w.heap.size w w1 := ((Below.refl _ _).alloc (Nat.le_refl _) _).trans (hown0.below_app hg1 (by simp)))
      | (at_builtin; refine wpList_app _ rfl (.tmp 22) (.tmp 23) rfl w.heap.size v1 (0 + n) ([] ++ l) rfl hown1 w.heap.size A n cap l rfl (hI.below hb1) (by omega) hb1.size ?_; intro v2 w2 hown2 hg2 _; have hb2 : Below w.heap.size w w2 := hb1.trans (hown1.below_app hg2 hb1.size); rw [Nat.zero_add, List.nil_append] at hown2; obtain ⟨g, c2, rfl, hg, hgs, hc2, _⟩ := hown2.form (by omega); have k0 := hown2.cell (2 * j) (by omega); have k1 := hown2.cell (2 * j + 1) (by omega); have f0 := hown2.free (2 * j); have f1 := hown2.free (2 * j + 1)))
    have hx2 : 2 * j + 1 < (l ++ l).length := by rw [List.length_append, hI.1]; omega
    have hbyt := hown2.byt
    have b1 := byAt_lo (l ++ l) (2 * j)
    have b2 := byAt_hi (l ++ l) (2 * j)
    have b3 := byAt_lo (l ++ l) (2 * j + 1)
    have b4 := byAt_hi (l ++ l) (2 * j + 1)
    have hor := shl8_or _ _ b1 b2 b3 b4
    go_quiet (fail)
    go_wp2_with fail
    have hown3 := hown2.drewN nq
    have hb3 := below_drewN hb2 nq
    obtain ⟨w3, hw3⟩ : ∃ w3, w3 = w2.drewN nq := ⟨_, rfl⟩
    rw [← hw3] at hown3 hb3 ⊢
    obtain ⟨o, ho⟩ : ∃ o, o = byAt (l ++ l) (2 * j) * 256 + byAt (l ++ l) (2 * j + 1) := ⟨_, rfl⟩
    rw [← ho]
    have o1 : 0 ≤ o := by omega
    have o2 : o ≤ 65535 := by omega
    have HC : Hid (csum (l ++ l) = foldV (rest (l ++ l) j + o)) := by rw [csum_word _ _ hx2, ho]; exact rfl
    clear ho hw3 hor b1 b2 b3 b4 k0 k1 f0 f1 hown1 hown2 hb1 hb2 hg1 hg2 hown0
    have hbyt := hown3.byt
    refine (of_any _ _ _ (l ++ l) (by omega) _ hbyt).mono ?_
    rintro e w4 ⟨rfl, hb4⟩
    have hown4 := hown3.below hb4
    have hb5 := hb3.trans (hb4.mono hb3.size)
    clear hown3 hb3 hb4 hbyt
    go_wp2_with fail
    refine (update_any _ _ _ _).mono ?_
    rintro e w' ⟨rfl, rfl⟩
    obtain ⟨R, hR⟩ : ∃ R, rest (l ++ l) j = R := ⟨_, rfl⟩
    have hR0 : 0 ≤ R := by rw [← hR]; exact rest_lo _ _ hx2
    have HC' : csum (l ++ l) = foldV (R + o) := by rw [← hR]; exact HC.out
    obtain ⟨t1, t2, t3⟩ := update_good R o x _ hR0 o1 o2 x1 x2 HC'
    obtain ⟨s, hs⟩ : ∃ s, s = 65535 - foldV (foldV ((65535 - (65535 - csum (l ++ l)) % 65536) + (65535 - o % 65536)) + x % 65536) := ⟨_, rfl⟩
    rw [← hs] at t1 t2 t3 ⊢
    have e8 : csum (putW (l ++ l) j (x / 256) (x % 256)) = foldV (R + x) := by
      rw [csum_put _ _ _ _ hx2 (by omega) (by omega) (by omega) (by omega), hR, show x / 256 * 256 + x % 256 = x from by omega]
    have hcase : Hid ((foldV (csum (putW (l ++ l) j (x / 256) (x % 256)) % 65536 + s % 65536) == 65535) = true) ∨
        Hid ((foldV (csum (putW (l ++ l) j (x / 256) (x % 256)) % 65536 + s % 65536) == 65535) = false ∧ csum (putW (l ++ l) j (x / 256) (x % 256)) = 0) := by
      by_cases c : (foldV (csum (putW (l ++ l) j (x / 256) (x % 256)) % 65536 + s % 65536) == 65535) = true
      · exact .inl c
      · refine .inr ⟨by simpa using c, ?_⟩
        rw [e8] at c ⊢
        by_cases d : 0 < R + x
        · rw [t3 d] at c; simp at c
        · rw [show R + x = 0 from by omega]; rfl
    have k0 := hown4.cell (2 * j) (by omega)
    have k1 := hown4.cell (2 * j + 1) (by omega)
    have f0 := hown4.free (2 * j)
    have f1 := hown4.free (2 * j + 1)
    clear hs e8 HC' HC t3 hR hR0
    go_wp2_with fail
    have hown5 := hown4.putw j (x / 256) (x % 256) (by omega) (by omega) (by omega) (by omega)
    have hb6 : Below w.heap.size w ((w4.setCell ⟨g, 2 * j, none⟩ (.int .u8 (x / 256))).setCell ⟨g, 2 * j + 1, none⟩ (.int .u8 (x % 256))) := (hb5.setCell (p := ⟨g, 2 * j, none⟩) hg _).setCell (p := ⟨g, 2 * j + 1, none⟩) hg _
    clear k0 k1 f0 f1 hown4 hb5
    refine (sum_any _ _ _ (putW (l ++ l) j (x / 256) (x % 256)) (by omega) _ hown5.byt).mono ?_
    rintro e w6 ⟨rfl, hb7⟩
    have hown6 := hown5.below hb7
    have hb8 := hb6.trans (hb7.mono hb6.size)
    clear hown5 hb6 hb7
    rcases hcase with H | H
    · go_wp2_with fail
      refine (add_any _ _ _).mono ?_
      rintro e w' ⟨rfl, rfl⟩
      have H' := H.out
      clear H
      go_wp2_with (go_at_call 8; refine (lives_any _).mono ?_; rintro e w' ⟨rfl, hb⟩)
      go_ret
      exact ⟨rfl, hb8.trans (hb.mono hb8.size)⟩
    · go_wp2_with fail
      refine (add_any _ _ _).mono ?_
      rintro e w' ⟨rfl, rfl⟩
      obtain ⟨H1, H2⟩ := H.out
      have H3 := Lib.hid H2
      clear H H2
      go_wp2_with fail
      refine (sum_any _ _ _ (putW (l ++ l) j (x / 256) (x % 256)) (by omega) _ hown6.byt).mono ?_
      rintro e w7 ⟨rfl, hb9⟩
      have hb10 := hb8.trans (hb9.mono hb8.size)
      rw [H3.out]
      clear hown6 hb8 hb9 H1
      go_wp2_with (go_at_call 8; refine (lives_any _).mono ?_; rintro e w' ⟨rfl, hb⟩)
      go_ret
      exact ⟨rfl, hb10.trans (hb.mono hb10.size)⟩
end Go.Proofs.Ytmibakbfjljfmaa
