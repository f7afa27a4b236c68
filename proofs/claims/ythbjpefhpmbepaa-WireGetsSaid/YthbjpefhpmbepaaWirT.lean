/- wire: WireGets. -/
import Derived.Test.YthbjpefhpmbepaaWirH
import Derived.Test.YthbjpefhpmbepaaOpen
namespace Go.Proofs.Ythbjpefhpmbepaa
set_option linter.unusedVariables false
open Go.RowKit

theorem askGet_any (w : World) (B lo g gm : Nat) (s : St) (h : Two w lo g gm s) (hBg : B ≤ g) (hB : B ≤ w.heap.size) (k m : Int) :
    Calls Try.prog 23 #[.pointer (some ⟨g, 0, none⟩), .pointer (some ⟨gm, 0, none⟩), .agg #[.int .i64 k, .int .i64 m]] w fun e w' => ∃ s', e = .returned (.bool true) ∧ Two w' lo g gm s' ∧ Below B w w' := by
  by_cases h1 : 0 ≤ k ∧ k ≤ 2
  · exact getk_any w B lo g gm s h hBg hB k m h1.1 h1.2
  · by_cases h3 : k = 3
    · subst h3; exact get3_any w B lo g gm s h hBg hB m
    · by_cases h4 : k = 4
      · subst h4; exact get4_any w B lo g gm s h hBg hB m
      · exact get5_any w B lo g gm s h hBg hB k m (by omega)

theorem Ref.cells {w : World} {lo g : Nat} {s : St} (h : Ref w lo g s) : ∃ N : Nat, s.at_ = (N : Int) ∧ w.cell? ⟨g, 1, none⟩ = some (.int .i64 (N : Int)) ∧ w.cell? ⟨g, 2, none⟩ = some (.int .i64 s.e) := by
  obtain ⟨A, n, c, N, L, h1, h2, h3, h4, h5, h6, h7⟩ := h
  exact ⟨N, h6, h3.cellv 1 rfl, h3.cellv 2 rfl⟩

set_option maxRecDepth 100000 in
set_option maxHeartbeats 4000000 in
theorem gets_walk (A : Option Addr) (n c : Nat) (l : List UInt8) (A2 : Option Addr) (n2 c2 : Nat) (vs : Nat → Value) (w : World) (_h1 : n ≤ c) (_h2 : c ≤ maxLen) (hI : Byt w w.heap.size A n l) (_h3 : n2 ≤ c2) (_h4 : c2 ≤ maxLen) (hI2 : Flat w w.heap.size A2 (n2 * 2) vs)
    (hE : ∀ i, i < n2 → ∀ j, j < 2 → ∃ z, vs (i * 2 + j) = .int .i64 z ∧ (Lit.int .i64 z).wf = true) :
    Calls Try.prog 5 #[.slice A n c, .slice A2 n2 c2] w fun e w' => e = .returned (.bool true) ∧ Below w.heap.size w w' := by
  by_cases hn : 300 < n ∨ 60 < n2
  · go_enter Try.func5, Try.ntmps5
    go_wp2_with fail
    all_goals try (exfalso; omega)
    all_goals (refine (lives_any _).mono ?_; rintro e w' ⟨rfl, hb⟩; go_wp2_with fail; go_ret; exact ⟨rfl, hb⟩)
  · have hn1 : n ≤ 300 := by omega
    have hn2 : n2 ≤ 60 := by omega
    clear hn
    go_enter Try.func5, Try.ntmps5
    go_wp2_with fail
    all_goals try (exfalso; omega)
    refine (read_any w A n c l _ hI (Nat.le_refl _) (by omega)).mono ?_
    rintro e w1 ⟨g, rfl, hg, hs1, hb1⟩
    go_wp2_with fail
    refine (refRead_any w1 A n c l _ (hI.below hb1) hb1.size (by omega)).mono ?_
    rintro e w2 ⟨gm, rfl, hgm, hr2, hb2⟩
    have hs2 := hs1.below hb2 hs1.lt
    have hT : Two w2 w1.heap.size g gm ⟨l, 0, 0⟩ := ⟨hs2, hr2, hs1.lt, by have := hs1.lt; omega⟩
    have hbb := hb1.trans (hb2.mono hb1.size)
    generalize hlo : w1.heap.size = lo at *
    generalize hst : (⟨l, 0, 0⟩ : St) = s0 at *
    clear hs1 hb1 hr2 hb2 hs2
    go_wp2_with fail
    go_loopw [24] (fun i wr => ∃ (k : Nat) (s : St), k ≤ n2 ∧ i = .int .i64 (k : Int) ∧ Two wr lo g gm s ∧ Below w.heap.size w wr) (fun i _ => n2 - (intOf i).toNat)
    case atStart => exact ⟨0, s0, Nat.zero_le _, rfl, hT, hbb⟩
    case round =>
      obtain ⟨k, s, hk, rfl, hT, hbw⟩ := hrel
      by_cases hlt : k < n2
      · obtain ⟨b, off, rfl, hb, hc⟩ := hI2 (by omega)
        obtain ⟨z0, q0, y0⟩ := hE k hlt 0 (by omega)
        obtain ⟨z1, q1, y1⟩ := hE k hlt 1 (by omega)
        have c0 : wr.cell? ⟨b, off + k * 2, none⟩ = some (.int .i64 z0) := ((hbw.cell hb).trans (hc (k * 2 + 0) (by omega))).trans (by rw [q0])
        have c1 : wr.cell? ⟨b, off + k * 2 + 1, none⟩ = some (.int .i64 z1) := ((hbw.cell hb).trans (hc (k * 2 + 1) (by omega))).trans (by rw [q1])
        have hw0 := (Blk.new wr 49 #[.int .i64 z0, .int .i64 z1]).drew
        have d0 := hw0.cellv 0 (v := .int .i64 z0) rfl
        have d1 := hw0.cellv 1 (v := .int .i64 z1) rfl
        have hT0 : Two (wr.alloc (.cells #[.int .i64 z0, .int .i64 z1] 49)).drew lo g gm s := (hT.below ((Below.refl wr.heap.size wr).alloc (Nat.le_refl _) _) hT.ref.lt).below (Below.refl (wr.heap.size + 1) _).drew (by have := hT.ref.lt; omega)
        have hB0 := (hbw.alloc hbw.size (.cells #[.int .i64 z0, .int .i64 z1] 49)).drew
        have hlw : w.heap.size ≤ lo := Nat.le_trans hg (Nat.le_of_lt hT.hlo)
        go_wp2_with fail
        clear hI hE hI2 hc hst q0 q1 y0 y1 hT hw0
        go_region_with (first
          | (go_at_call 23; refine (askGet_any _ w.heap.size lo g gm s hT0 hg hB0.size z0 z1).mono ?_; rintro e w4 ⟨s4, rfl, hT4, hb4⟩; have hb4 := hB0.trans hb4; have hE4 := Ref.cells hT4.ref; obtain ⟨N4, hN4, r1, r2⟩ := hE4)
          | (go_at_call 24; refine (err_any _ g _ hT4.src).mono ?_; rintro e w' ⟨rfl, rfl⟩)
          | (go_at_call 25; refine (left_any _ g _ hT4.src).mono ?_; rintro e w' ⟨rfl, rfl⟩)
          | (go_at_call 26; refine (refLeft_any _ lo gm _ hT4.ref).mono ?_; rintro e w' ⟨kq, rfl, rfl⟩; have r1' : (w4.drewN kq).cell? ⟨gm, 1, none⟩ = some (.int .i64 (N4 : Int)) := r1)
          | (go_at_call 19; refine (at_any _ g _ (hT4.src.drewN kq)).mono ?_; rintro e w' ⟨rfl, rfl⟩))
        all_goals (go_wp2_with fail; exact ⟨⟨k + 1, s4, by omega, by go_num, ⟨hT4.src.drewN kq, hT4.ref, hT4.hlo, hT4.hgm⟩, below_drewN hb4 kq⟩, by simp [intOf]; omega⟩)
      · obtain rfl : n2 = k := by omega
        go_wp2_with fail
        refine (end_any wr g s hT.src).mono ?_
        rintro e w5 ⟨rfl, hb5⟩
        have hT5 := hT.below hb5 hT.ref.lt
        have hb5 := hbw.trans (hb5.mono hbw.size)
        go_wp2_with fail
        refine (refEnd_any w5 lo gm s hT5.ref).mono ?_
        rintro e w6 ⟨kq, rfl, rfl⟩
        go_wp2_with fail
        refine (lives_any _).mono ?_
        rintro e w7 ⟨rfl, hb7⟩
        go_wp2_with fail
        go_ret
        exact ⟨rfl, (below_drewN hb5 kq).trans (hb7.mono hb5.size)⟩
end Go.Proofs.Ythbjpefhpmbepaa
