/- rise: the law RiseNotes. -/
import Derived.Test.YtfmjedbpjjjdpaaRiseF
import Derived.Test.YtfmjedbpjjjdpaaOpen
namespace Go.Proofs.Ytfmjedbpjjjdpaa
set_option linter.unusedVariables false
open Go.RowKit

theorem note_both (r f n : Int) (u ok : Bool) (hr : 0 < r) (n1 : 0 ≤ n) (n2 : n ≤ 100) (hn : needs r f u ≤ 100) :
    ∃ (ch u' : Bool) (n' : Int), 0 ≤ n' ∧ n' ≤ 100 ∧
      Hid (∀ (g : Nat) (w : World), Blk w g 37 (riseCs r f u n) → Calls Try.prog 9 #[.pointer (some ⟨g, 0, none⟩), .bool ok] w fun e w' => e = .returned (.bool ch) ∧ Blk w' g 37 (riseCs r f u' n') ∧ w.grownBy w' (some g)) ∧
      Hid (∀ (g : Nat) (w : World), Blk w g 32 (riseCs r f u n) → Calls Try.prog 13 #[.pointer (some ⟨g, 0, none⟩), .bool ok] w fun e w' => e = .returned (.bool ch) ∧ Blk w' g 32 (riseCs r f u' n') ∧ w.grownBy w' (some g)) := by
  by_cases e : ok = u
  · subst e
    exact ⟨false, ok, 0, by omega, by omega, fun g w hb => note_same r f n ok g w hr hb, fun g w hb => refNote_same r f n ok g w hb⟩
  · have e2 : ok = !u := by cases ok <;> cases u <;> simp_all
    by_cases c : needs r f u ≤ n + 1
    · exact ⟨true, !u, 0, by omega, by omega, fun g w hb => note_yes r f n u ok g w hr e2 n1 (by omega) hb c, fun g w hb => refNote_yes r f n u ok g w e2 n1 (by omega) hb c⟩
    · exact ⟨false, u, n + 1, by omega, by omega, fun g w hb => note_no r f n u ok g w hr e2 n1 (by omega) hb (by omega), fun g w hb => refNote_no r f n u ok g w e2 n1 (by omega) hb (by omega)⟩

set_option maxHeartbeats 2000000 in
theorem notes_walk (r f : Int) (A : Option Addr) (n cap : Nat) (bs : Nat → Bool) (A2 : Option Addr) (n2 cap2 : Nat) (bs2 : Nat → Bool) (w : World) (hI : Flat w w.heap.size A n fun j => .bool (bs j)) (hI2 : Flat w w.heap.size A2 n2 fun j => .bool (bs2 j)) :
    Calls Try.prog 4 #[.agg #[.int .i64 r, .int .i64 f], .slice A n cap, .slice A2 n2 cap2] w fun e w' => e = .returned (.bool true) ∧ Below w.heap.size w w' := by
  have hk0 := Blk.new w 28 #[.int .i64 r, .int .i64 f]
  have hB0 := (Below.refl w.heap.size w).alloc (Nat.le_refl _) (.cells #[.int .i64 r, .int .i64 f] 28)
  by_cases hn : 500 < n ∨ 500 < n2
  · have hn' : 500 < n ∨ (n ≤ 500 ∧ 500 < n2) := by omega
    clear hn
    rcases hn' with l1 | ⟨l1, l2⟩
    all_goals
      go_enter Try.func4, Try.ntmps4
      go_wp2_with (go_at_call 6; refine (lives_any _).mono ?_; rintro e w' ⟨rfl, hx⟩)
      go_ret
      exact ⟨rfl, hB0.trans (hx.mono hB0.size)⟩
  · have l1 : n ≤ 500 := by omega
    have l2 : n2 ≤ 500 := by omega
    clear hn
    by_cases h : (1 ≤ r ∧ r ≤ 100) ∧ (1 ≤ f ∧ f ≤ 100)
    · obtain ⟨⟨r1, r2⟩, f1, f2⟩ := h
      go_enter Try.func4, Try.ntmps4
      go_wp2_with fail
      generalize (w.alloc (.cells #[.int .i64 r, .int .i64 f] 28)) = w1 at *
      have hk := hk0.drew
      have hB := hB0.drew
      go_region_held3 (fun w' => w'.cell? ⟨w.heap.size, 0, none⟩ = some (.int .i64 r) ∧ w'.cell? ⟨w.heap.size, 1, none⟩ = some (.int .i64 f)) (exact ⟨hk.cellv 0 rfl, hk.cellv 1 rfl⟩)
        (first
          | (go_at_call 7; refine (new_yes r f _ ⟨r1, r2⟩ ⟨f1, f2⟩).mono ?_; rintro e w' ⟨g, rfl, hg, hd, hx⟩; have hgn := Nat.lt_of_lt_of_le hk.lt hg; have hk := hk.below hx hk.lt; have hB := hB.trans (hx.mono hB.size); clear hx)
          | (go_at_call 10; refine (refNew_yes r f _ ⟨r1, r2⟩ ⟨f1, f2⟩).mono ?_; rintro e w' ⟨m, rfl, hm, he, hx⟩; have hmg := Nat.lt_of_lt_of_le hd.lt hm; have hk := hk.below hx hk.lt; have hd := hd.below hx hd.lt; have hB := hB.trans (hx.mono hB.size); clear hx))
      clear hk0 hB0 hk hm hg
      go_wp2_with fail
      go_loopw [41] (fun i wr => ∃ (k : Nat) (z : Int) (u : Bool), k ≤ n ∧ i = .int .i64 k ∧ 0 ≤ z ∧ z ≤ 100 ∧ Blk wr g 37 (riseCs r f u z) ∧ Blk wr m 32 (riseCs r f u z) ∧ Below w.heap.size w wr) (fun i _ => n - (intOf i).toNat)
      case atStart => exact ⟨0, 0, false, by omega, rfl, by omega, by omega, hd, he, hB⟩
      case round =>
        obtain ⟨k, z, u, hkn, rfl, z1, z2, hd, he, hB⟩ := hrel
        by_cases c : k < n
        · obtain ⟨b0, off, rfl, hb0, hc⟩ := (hI.below hB) (by omega)
          have hck := hc k c
          clear hc
          obtain ⟨ok, hok⟩ : ∃ ok, bs k = ok := ⟨_, rfl⟩
          simp only [hok] at hck
          clear hok
          have hcase : (k < n2 ∧ bs2 k = true) ∨ ((k < n2 ∧ bs2 k = false) ∨ ¬ k < n2) := by
            by_cases e : k < n2
            · cases bs2 k <;> simp [e]
            · exact .inr (.inr e)
          rcases hcase with ⟨d1, d2⟩ | hcase
          · obtain ⟨b1, off1, rfl, hb1, hc⟩ := (hI2.below hB) (by omega)
            have hck2 := hc k d1
            simp only [d2] at hck2
            clear hc d2
            go_wp2_with fail
            refine (force_any r f z u g _ (by omega) hd ok).mono ?_
            rintro e w4 ⟨rfl, hd, hx⟩
            have he := he.grown hx (by intro e; injection e with e; omega)
            have hB := below_own hB hx hB.size (by omega)
            clear hx
            go_wp2_with fail
            refine (refForce_any r f z u ok m _ he).mono ?_
            rintro e w5 ⟨rfl, he, hx⟩
            have hd := hd.grown hx (by intro e; injection e with e; omega)
            have hB := below_own hB hx hB.size (by omega)
            clear hx hck hck2
            have e1 := he.cellv 2 (v := .bool ok) rfl
            have e2 := he.cellv 3 (v := .int .i64 0) rfl
            go_wp2_with fail
            go_quiet ((first | (go_at_call 8; exact quiet_left (up_any r f 0 ok g _ (by omega) hd)) | (go_at_call 14; first | exact quiet_left (run_any r f 0 ok g _ (by omega) hd) | exact quiet_add_left (run_any r f 0 ok g _ (by omega) hd))))
            go_wp2_with fail
            go_roundw
            case rel => exact ⟨k + 1, 0, ok, by omega, by go_num, by omega, by omega, hd, he, below_drewN hB _⟩
            case measure => simp [intOf]; omega
          · obtain ⟨ch, u', z', y1, y2, N1, N2⟩ := note_both r f z u ok (by omega) z1 z2 (by unfold needs; split <;> omega)
            rcases hcase with ⟨d1, d2⟩ | d1
            · obtain ⟨b1, off1, rfl, hb1, hc⟩ := (hI2.below hB) (by omega)
              have hck2 := hc k d1
              simp only [d2] at hck2
              clear hc d2
              go_wp2_with fail
              refine (N1.out g _ hd).mono ?_
              rintro e w4 ⟨rfl, hd, hx⟩
              have he := he.grown hx (by intro e; injection e with e; omega)
              have hB := below_own hB hx hB.size (by omega)
              clear hx
              go_wp2_with fail
              refine (N2.out m _ he).mono ?_
              rintro e w5 ⟨rfl, he, hx⟩
              have hd := hd.grown hx (by intro e; injection e with e; omega)
              have hB := below_own hB hx hB.size (by omega)
              clear hx hck hck2
              have e1 := he.cellv 2 (v := .bool u') rfl
              have e2 := he.cellv 3 (v := .int .i64 z') rfl
              go_wp2_with fail
              go_quiet ((first | (go_at_call 8; exact quiet_left (up_any r f z' u' g _ (by omega) hd)) | (go_at_call 14; first | exact quiet_left (run_any r f z' u' g _ (by omega) hd) | exact quiet_add_left (run_any r f z' u' g _ (by omega) hd))))
              go_wp2_with fail
              go_roundw
              case rel => exact ⟨k + 1, z', u', by omega, by go_num, y1, y2, hd, he, below_drewN hB _⟩
              case measure => simp [intOf]; omega
            · go_wp2_with fail
              refine (N1.out g _ hd).mono ?_
              rintro e w4 ⟨rfl, hd, hx⟩
              have he := he.grown hx (by intro e; injection e with e; omega)
              have hB := below_own hB hx hB.size (by omega)
              clear hx
              go_wp2_with fail
              refine (N2.out m _ he).mono ?_
              rintro e w5 ⟨rfl, he, hx⟩
              have hd := hd.grown hx (by intro e; injection e with e; omega)
              have hB := below_own hB hx hB.size (by omega)
              clear hx hck
              have e1 := he.cellv 2 (v := .bool u') rfl
              have e2 := he.cellv 3 (v := .int .i64 z') rfl
              go_wp2_with fail
              go_quiet ((first | (go_at_call 8; exact quiet_left (up_any r f z' u' g _ (by omega) hd)) | (go_at_call 14; first | exact quiet_left (run_any r f z' u' g _ (by omega) hd) | exact quiet_add_left (run_any r f z' u' g _ (by omega) hd))))
              go_wp2_with fail
              go_roundw
              case rel => exact ⟨k + 1, z', u', by omega, by go_num, y1, y2, hd, he, below_drewN hB _⟩
              case measure => simp [intOf]; omega
        · go_wp2_with fail
          refine (copy_any r f z u g _ (by omega) hd).mono ?_
          rintro e w4 ⟨rfl, hcp, hx⟩
          have hgc : g < wr.heap.size := hd.lt
          have hmc : m < wr.heap.size := he.lt
          have hd := hd.below hx hd.lt
          have he := he.below hx he.lt
          have hwc : w.heap.size ≤ wr.heap.size := hB.size
          have hB := hB.trans (hx.mono hB.size)
          obtain ⟨y, hy⟩ : ∃ y, y = wr.heap.size := ⟨_, rfl⟩
          rw [← hy] at hcp hgc hmc hwc ⊢
          clear hx hy
          go_wp2_with fail
          refine (up_any r f z u y _ (by omega) hcp).mono ?_
          rintro e w' ⟨rfl, rfl⟩
          go_wp2_with fail
          refine (force_any r f z u y _ (by omega) hcp (!u)).mono ?_
          rintro e w5 ⟨rfl, hcp, hx⟩
          have hd := hd.grown hx (by intro e; injection e with e; omega)
          have he := he.grown hx (by intro e; injection e with e; omega)
          have hB := below_own hB hx hB.size (by omega)
          clear hx
          go_wp2_with fail
          have hd := hd.drew
          have he := he.drew
          have hcp := hcp.drew
          have hB := hB.drew
          have hne : ((!u) != u) = true := by cases u <;> rfl
          go_region_held3 (fun w' => w'.cell? ⟨m, 2, none⟩ = some (.bool u)) (exact he.cellv 2 rfl)
            (first
              | (go_at_call 8; with_reducible refine (up_any r f z u g _ (by omega) hd).mono ?_; rintro e w' ⟨rfl, rfl⟩)
              | (go_at_call 8; with_reducible refine (up_any r f 0 (!u) y _ (by omega) hcp).mono ?_; rintro e w' ⟨rfl, rfl⟩)
              | (go_at_call 6; refine (lives_any _).mono ?_; rintro e w' ⟨rfl, hx⟩; have he := he.below hx he.lt; have hB := hB.trans (hx.mono hB.size); clear hx))
          all_goals go_wp2
          all_goals go_ret
          all_goals exact ⟨rfl, hB⟩
    · have h' : ¬ (1 ≤ r ∧ r ≤ 100) ∨ ¬ (1 ≤ f ∧ f ≤ 100) := by omega
      have HH := Lib.hid h'
      clear h h'
      go_enter Try.func4, Try.ntmps4
      go_wp2_with fail
      generalize (w.alloc (.cells #[.int .i64 r, .int .i64 f] 28)) = w1 at *
      have hk := hk0.drew
      have hB := hB0.drew
      go_region_held3 (fun w' => w'.cell? ⟨w.heap.size, 0, none⟩ = some (.int .i64 r) ∧ w'.cell? ⟨w.heap.size, 1, none⟩ = some (.int .i64 f)) (exact ⟨hk.cellv 0 rfl, hk.cellv 1 rfl⟩)
        (first
          | (go_at_call 7; refine (new_no r f _ HH.out).mono ?_; rintro e w' ⟨rfl, rfl⟩)
          | (go_at_call 10; refine (refNew_no r f _ HH.out).mono ?_; rintro e w' ⟨rfl, rfl⟩))
      go_wp2_with (go_at_call 6; refine (lives_any _).mono ?_; rintro e w' ⟨rfl, hx⟩)
      go_ret
      exact ⟨rfl, hB.trans (hx.mono hB.size)⟩

theorem notes_law (l : List Int) (A : Option Addr) (n cap : Nat) (bs : Nat → Bool) (A2 : Option Addr) (n2 cap2 : Nat) (bs2 : Nat → Bool) (w : World) (hl : l.length = 2) (_hw : ∀ z ∈ l, (Lit.int .i64 z).wf = true)
    (_h1 : n ≤ cap) (_h2 : cap ≤ maxLen) (hI : Flat w w.heap.size A n fun j => .bool (bs j)) (_h3 : n2 ≤ cap2) (_h4 : cap2 ≤ maxLen) (hI2 : Flat w w.heap.size A2 n2 fun j => .bool (bs2 j)) :
    Calls Try.prog 4 #[.agg (l.map (Value.int .i64)).toArray, .slice A n cap, .slice A2 n2 cap2] w fun e w' => e = .returned (.bool true) ∧ Below w.heap.size w w' := by
  match l, hl with
  | [r, f], _ => exact notes_walk r f A n cap bs A2 n2 cap2 bs2 w hI hI2
end Go.Proofs.Ytfmjedbpjjjdpaa
