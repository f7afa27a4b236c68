/- rise: the law RiseRuns. -/
import Derived.Test.YtfmjedbpjjjdpaaRiseA
import Derived.Test.YtfmjedbpjjjdpaaOpen
namespace Go.Proofs.Ytfmjedbpjjjdpaa
set_option linter.unusedVariables false
open Go.RowKit

/-- how many of those from 'since' on, up to i, are other than u, in a row at the end. -/
def trail (bs : Nat → Bool) (u : Bool) (since : Nat) : Nat → Nat
  | 0 => 0
  | i + 1 => if since ≤ i ∧ bs i ≠ u then trail bs u since i + 1 else 0
theorem trail_le (bs : Nat → Bool) (u : Bool) (s i : Nat) : trail bs u s i ≤ i := by
  induction i with
  | zero => exact Nat.le_refl _
  | succ i ih => unfold trail; split <;> omega
theorem trail_new (bs : Nat → Bool) (u : Bool) (i : Nat) : trail bs u i i = 0 := by
  cases i with
  | zero => rfl
  | succ i => unfold trail; rw [if_neg (by omega)]

theorem trail_out (bs : Nat → Bool) (u : Bool) (s j : Nat) (h : j ≤ s) : trail bs u s j = 0 := by
  cases j with
  | zero => rfl
  | succ j => unfold trail; rw [if_neg (by omega)]
theorem trail_stop (bs : Nat → Bool) (u : Bool) (s j : Nat) (h : bs j = u) : trail bs u s (j + 1) = 0 := by
  unfold trail; rw [if_neg (by simp [h])]
theorem trail_more (bs : Nat → Bool) (u : Bool) (s j : Nat) (h : bs j = !u) (hs : s ≤ j) : trail bs u s (j + 1) = trail bs u s j + 1 := by
  rw [trail, if_pos ⟨hs, by rw [h]; cases u <;> simp⟩]
theorem note_trail (r f : Int) (u ok : Bool) (m si k g : Nat) (bs : Nat → Bool) (w : World) (hr : 0 < r) (hm : m = trail bs u si k) (hok : bs k = ok) (hs : si ≤ k) (h10 : m ≤ 10) (hn : 1 ≤ needs r f u) (hb : Blk w g 37 (riseCs r f u m)) :
    Calls Try.prog 9 #[.pointer (some ⟨g, 0, none⟩), .bool ok] w fun e w' => ∃ (ch u' : Bool) (m' : Nat), e = .returned (.bool ch) ∧ Blk w' g 37 (riseCs r f u' m') ∧ w.grownBy w' (some g) ∧
      ((ch = true ∧ u' = (!u) ∧ needs r f u ≤ trail bs u si (k + 1) ∧ m' = 0) ∨ (ch = false ∧ u' = u ∧ (trail bs u si (k + 1) : Int) < needs r f u ∧ m' = trail bs u si (k + 1))) := by
  by_cases e : ok = u
  · subst e
    have ht : trail bs ok si (k + 1) = 0 := by unfold trail; rw [if_neg (by simp [hok])]
    refine (note_same r f m ok g w hr hb).mono ?_
    rintro e w' ⟨rfl, h1, h2⟩
    exact ⟨false, ok, 0, rfl, h1, h2, .inr ⟨rfl, rfl, by rw [ht]; omega, ht.symm⟩⟩
  · have e2 : ok = !u := by cases ok <;> cases u <;> simp_all
    have ht : trail bs u si (k + 1) = m + 1 := by unfold trail; rw [if_pos ⟨hs, by rw [hok]; exact e⟩, hm]
    by_cases c : needs r f u ≤ (m : Int) + 1
    · refine (note_yes r f m u ok g w hr e2 (by omega) (by omega) hb c).mono ?_
      rintro e w' ⟨rfl, h1, h2⟩
      exact ⟨true, _, 0, rfl, h1, h2, .inl ⟨rfl, rfl, by rw [ht]; omega, rfl⟩⟩
    · refine (note_no r f m u ok g w hr e2 (by omega) (by omega) hb (by omega)).mono ?_
      rintro e w' ⟨rfl, h1, h2⟩
      exact ⟨false, u, m + 1, rfl, h1, h2, .inr ⟨rfl, rfl, by rw [ht]; omega, ht.symm⟩⟩

set_option maxHeartbeats 2000000 in
theorem runs_walk (a b : Int) (A : Option Addr) (n cap : Nat) (bs : Nat → Bool) (w : World) (wa : (Lit.int .u8 a).wf = true) (wb : (Lit.int .u8 b).wf = true) (_hl : n ≤ cap) (_hm : cap ≤ maxLen) (hI : Flat w w.heap.size A n fun j => .bool (bs j)) :
    Calls Try.prog 3 #[.int .u8 a, .int .u8 b, .slice A n cap] w fun e w' => e = .returned (.bool true) ∧ Below w.heap.size w w' := by
  obtain ⟨a1, a2⟩ := bounds_u8 wa
  obtain ⟨b1, b2⟩ := bounds_u8 wb
  clear wa wb
  by_cases hn : 500 < n
  · go_enter Try.func3, Try.ntmps3
    go_wp2_with (go_at_call 6; refine (lives_any _).mono ?_; rintro e w' ⟨rfl, hx⟩)
    go_ret
    exact ⟨rfl, hx⟩
  · go_enter Try.func3, Try.ntmps3
    go_wp2_with fail
    refine (new_yes (1 + a % 9) (1 + b % 9) _ (by omega) (by omega)).mono ?_
    rintro e w1 ⟨g, rfl, hg, hd, hB⟩
    obtain ⟨r, hr⟩ : ∃ r, r = 1 + a % 9 := ⟨_, rfl⟩
    obtain ⟨f, hf⟩ : ∃ f, f = 1 + b % 9 := ⟨_, rfl⟩
    rw [← hr, ← hf] at hd ⊢
    have r1 : 1 ≤ r := by omega
    have r2 : r ≤ 9 := by omega
    have f1 : 1 ≤ f := by omega
    have f2 : f ≤ 9 := by omega
    clear hr hf
    go_wp2_with fail
    go_loopw [10, 35] (fun s i wr => ∃ (k si m : Nat) (u : Bool), k ≤ n ∧ si ≤ k ∧ i = .int .i64 k ∧ s = .int .i64 si ∧ Hid (m = trail bs u si k) ∧ m ≤ 10 ∧ Blk wr g 37 (riseCs r f u m) ∧ Below w.heap.size w wr) (fun _ i _ => n - (intOf i).toNat)
    case atStart => exact ⟨0, 0, 0, false, by omega, by omega, rfl, rfl, rfl, by omega, hd, hB⟩
    case round =>
      obtain ⟨k, si, m, u, hkn, hsi, rfl, rfl, HM, hm10, hd, hB⟩ := hrel
      by_cases c : k < n
      · obtain ⟨b0, off, rfl, hb0, hc⟩ := hI (by omega)
        have HC := Lib.hid hc
        have hck := (hB.cell (p := ⟨b0, off + k, none⟩) hb0).trans (hc k c)
        clear hc
        obtain ⟨ok, hok⟩ : ∃ ok, bs k = ok := ⟨_, rfl⟩
        simp only [hok] at hck
        have HOK := Lib.hid hok
        clear hok
        go_wp2_with fail
        refine (up_any r f m u g _ (by omega) hd).mono ?_
        rintro e w' ⟨rfl, rfl⟩
        clear hck
        go_wp2_with fail
        have hn1 : 1 ≤ needs r f u := by unfold needs; split <;> omega
        have hn9 : needs r f u ≤ 9 := by unfold needs; split <;> omega
        refine (note_trail r f u ok m si k g bs _ (by omega) HM.out HOK.out hsi hm10 hn1 hd).mono ?_
        rintro e w2 ⟨ch, u', m', rfl, hd, hx, hcase⟩
        have hB2 := below_own hB hx hB.size hg
        obtain ⟨t, ht⟩ : ∃ t, t = trail bs u si (k + 1) := ⟨_, rfl⟩
        rw [← ht] at hcase
        have htk := trail_le bs u si (k + 1)
        rw [← ht] at htk
        have HT := Lib.hid ht
        have HCASE := Lib.hid hcase
        obtain ⟨nd, hnd⟩ : ∃ nd, nd = needs r f u := ⟨_, rfl⟩
        rw [← hnd] at hn1 hn9
        have HND := Lib.hid hnd
        clear hx hcase hB hm10 ht hnd
        have hcell : ∀ j, j < n → w2.cell? ⟨b0, off + j, none⟩ = some (.bool (bs j)) := fun j hj => (hB2.cell (p := ⟨b0, off + j, none⟩) hb0).trans (HC.out j hj)
        have HCELL := Lib.hid hcell
        clear hcell
        cases u
        · go_wp2_with fail
          go_loop [16, 17] (fun q kk => ∃ (j z : Nat), j ≤ k + 1 ∧ z ≤ n ∧ kk = .int .i64 ((j : Int) - 1) ∧ q = .int .i64 z ∧ Hid (z + trail bs false si j = t)) (fun _ kk => (intOf kk + 1).toNat)
          case atStart => exact ⟨k + 1, 0, by omega, by omega, by go_num, rfl, by show 0 + _ = t; rw [Nat.zero_add, HT.out]⟩
          case round =>
            obtain ⟨j, z, hjk, hzn, rfl, rfl, HZ⟩ := hrel
            by_cases c2 : si < j
            · obtain ⟨j0, rfl⟩ : ∃ j0, j = j0 + 1 := ⟨j - 1, by omega⟩
              have ej : (((j0 + 1 : Nat) : Int) - 1) = (j0 : Int) := by omega
              rw [ej]
              clear ej
              have hcj0 := HCELL.out j0 (by omega)
              have hx2 : bs j0 = false ∨ bs j0 = !false := by cases bs j0 <;> simp
              rcases hx2 with hx | hx
              · have hcj : w2.cell? ⟨b0, off + j0, none⟩ = some (.bool false) := by rw [← hx]; exact hcj0
                clear hcj0
                have hzt : z = t := by have := HZ.out; rw [trail_stop _ _ _ _ hx] at this; omega
                subst hzt
                rcases HCASE.out with ⟨rfl, rfl, h3, rfl⟩ | ⟨rfl, rfl, h3, rfl⟩
                · have h4 : r ≤ (z : Int) := h3
                  clear HCASE h3
                  go_wp2_with (go_at_call 8; refine (up_any r f _ _ g _ (by omega) hd).mono ?_; rintro e w' ⟨rfl, rfl⟩)
                  go_roundw
                  case rel => exact ⟨k + 1, k + 1, 0, _, by omega, by omega, by go_num, by go_num, (trail_new _ _ _).symm, by omega, hd, hB2⟩
                  case measure => simp [intOf]; omega
                · have h4 : (m' : Int) < r := h3
                  have h5 : r ≤ 9 := by omega
                  clear HCASE h3
                  go_wp2_with (go_at_call 8; refine (up_any r f _ _ g _ (by omega) hd).mono ?_; rintro e w' ⟨rfl, rfl⟩)
                  go_roundw
                  case rel => exact ⟨k + 1, si, m', _, by omega, by omega, by go_num, by go_num, HT.out, by omega, hd, hB2⟩
                  case measure => simp [intOf]; omega
              · have hcj : w2.cell? ⟨b0, off + j0, none⟩ = some (.bool true) := by rw [hx] at hcj0; exact hcj0
                have hzz : z + 1 + trail bs false si j0 = t := by have := HZ.out; rw [trail_more _ _ _ _ hx (by omega)] at this; omega
                have hzn2 : z + 1 ≤ n := by omega
                have HZZ := Lib.hid hzz
                clear hcj0 hzz
                go_wp2_with fail
                go_round
                case rel => exact ⟨j0, z + 1, by omega, hzn2, by go_num, by go_num, HZZ.out⟩
                case measure => simp [intOf]
            · have hzt : z = t := by have := HZ.out; rw [trail_out _ _ _ _ (by omega)] at this; omega
              subst hzt
              rcases HCASE.out with ⟨rfl, rfl, h3, rfl⟩ | ⟨rfl, rfl, h3, rfl⟩
              · have h4 : r ≤ (z : Int) := h3
                clear HCASE h3
                go_wp2_with (go_at_call 8; refine (up_any r f _ _ g _ (by omega) hd).mono ?_; rintro e w' ⟨rfl, rfl⟩)
                go_roundw
                case rel => exact ⟨k + 1, k + 1, 0, _, by omega, by omega, by go_num, by go_num, (trail_new _ _ _).symm, by omega, hd, hB2⟩
                case measure => simp [intOf]; omega
              · have h4 : (m' : Int) < r := h3
                have h5 : r ≤ 9 := by omega
                clear HCASE h3
                go_wp2_with (go_at_call 8; refine (up_any r f _ _ g _ (by omega) hd).mono ?_; rintro e w' ⟨rfl, rfl⟩)
                go_roundw
                case rel => exact ⟨k + 1, si, m', _, by omega, by omega, by go_num, by go_num, HT.out, by omega, hd, hB2⟩
                case measure => simp [intOf]; omega
        · go_wp2_with fail
          go_loop [16, 17] (fun q kk => ∃ (j z : Nat), j ≤ k + 1 ∧ z ≤ n ∧ kk = .int .i64 ((j : Int) - 1) ∧ q = .int .i64 z ∧ Hid (z + trail bs true si j = t)) (fun _ kk => (intOf kk + 1).toNat)
          case atStart => exact ⟨k + 1, 0, by omega, by omega, by go_num, rfl, by show 0 + _ = t; rw [Nat.zero_add, HT.out]⟩
          case round =>
            obtain ⟨j, z, hjk, hzn, rfl, rfl, HZ⟩ := hrel
            by_cases c2 : si < j
            · obtain ⟨j0, rfl⟩ : ∃ j0, j = j0 + 1 := ⟨j - 1, by omega⟩
              have ej : (((j0 + 1 : Nat) : Int) - 1) = (j0 : Int) := by omega
              rw [ej]
              clear ej
              have hcj0 := HCELL.out j0 (by omega)
              have hx2 : bs j0 = true ∨ bs j0 = !true := by cases bs j0 <;> simp
              rcases hx2 with hx | hx
              · have hcj : w2.cell? ⟨b0, off + j0, none⟩ = some (.bool true) := by rw [← hx]; exact hcj0
                clear hcj0
                have hzt : z = t := by have := HZ.out; rw [trail_stop _ _ _ _ hx] at this; omega
                subst hzt
                rcases HCASE.out with ⟨rfl, rfl, h3, rfl⟩ | ⟨rfl, rfl, h3, rfl⟩
                · have h4 : f ≤ (z : Int) := h3
                  clear HCASE h3
                  go_wp2_with (go_at_call 8; refine (up_any r f _ _ g _ (by omega) hd).mono ?_; rintro e w' ⟨rfl, rfl⟩)
                  go_roundw
                  case rel => exact ⟨k + 1, k + 1, 0, _, by omega, by omega, by go_num, by go_num, (trail_new _ _ _).symm, by omega, hd, hB2⟩
                  case measure => simp [intOf]; omega
                · have h4 : (m' : Int) < f := h3
                  have h5 : f ≤ 9 := by omega
                  clear HCASE h3
                  go_wp2_with (go_at_call 8; refine (up_any r f _ _ g _ (by omega) hd).mono ?_; rintro e w' ⟨rfl, rfl⟩)
                  go_roundw
                  case rel => exact ⟨k + 1, si, m', _, by omega, by omega, by go_num, by go_num, HT.out, by omega, hd, hB2⟩
                  case measure => simp [intOf]; omega
              · have hcj : w2.cell? ⟨b0, off + j0, none⟩ = some (.bool false) := by rw [hx] at hcj0; exact hcj0
                have hzz : z + 1 + trail bs true si j0 = t := by have := HZ.out; rw [trail_more _ _ _ _ hx (by omega)] at this; omega
                have hzn2 : z + 1 ≤ n := by omega
                have HZZ := Lib.hid hzz
                clear hcj0 hzz
                go_wp2_with fail
                go_round
                case rel => exact ⟨j0, z + 1, by omega, hzn2, by go_num, by go_num, HZZ.out⟩
                case measure => simp [intOf]
            · have hzt : z = t := by have := HZ.out; rw [trail_out _ _ _ _ (by omega)] at this; omega
              subst hzt
              rcases HCASE.out with ⟨rfl, rfl, h3, rfl⟩ | ⟨rfl, rfl, h3, rfl⟩
              · have h4 : f ≤ (z : Int) := h3
                clear HCASE h3
                go_wp2_with (go_at_call 8; refine (up_any r f _ _ g _ (by omega) hd).mono ?_; rintro e w' ⟨rfl, rfl⟩)
                go_roundw
                case rel => exact ⟨k + 1, k + 1, 0, _, by omega, by omega, by go_num, by go_num, (trail_new _ _ _).symm, by omega, hd, hB2⟩
                case measure => simp [intOf]; omega
              · have h4 : (m' : Int) < f := h3
                have h5 : f ≤ 9 := by omega
                clear HCASE h3
                go_wp2_with (go_at_call 8; refine (up_any r f _ _ g _ (by omega) hd).mono ?_; rintro e w' ⟨rfl, rfl⟩)
                go_roundw
                case rel => exact ⟨k + 1, si, m', _, by omega, by omega, by go_num, by go_num, HT.out, by omega, hd, hB2⟩
                case measure => simp [intOf]; omega
      · go_wp2_with (go_at_call 6; refine (lives_any _).mono ?_; rintro e w' ⟨rfl, hx⟩)
        go_ret
        exact ⟨rfl, hB.trans (hx.mono hB.size)⟩
end Go.Proofs.Ytfmjedbpjjjdpaa
