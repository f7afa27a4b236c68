/- damp: the law DampActs. -/
import Derived.Test.YthifahmhimbedaaDampR
import Derived.Test.YthifahmhimbedaaDampT
import Derived.Test.YthifahmhimbedaaOpen
namespace Go.Proofs.Ythifahmhimbedaa
set_option linter.unusedVariables false
open Go.RowKit

set_option maxHeartbeats 2000000 in
theorem acts_walk (F S R C H : Int) (A : Option Addr) (n cap : Nat) (bs : Nat → Bool) (w : World) (hI : Flat w w.heap.size A n fun j => .bool (bs j)) :
    Calls Try.prog 7 #[.agg #[.int .i64 F, .int .i64 S, .int .i64 R, .int .i64 C, .int .i64 H], .slice A n cap] w fun e w' => e = .returned (.bool true) ∧ Below w.heap.size w w' := by
  have hk0 := Blk.new w 26 #[.int .i64 F, .int .i64 S, .int .i64 R, .int .i64 C, .int .i64 H]
  have hB0 := (Below.refl w.heap.size w).alloc (Nat.le_refl _) (.cells #[.int .i64 F, .int .i64 S, .int .i64 R, .int .i64 C, .int .i64 H] 26)
  by_cases hn : 500 < n
  · go_enter Try.func7, Try.ntmps7
    go_wp2_with (go_at_call 10; refine (lives_any _).mono ?_; rintro e w' ⟨rfl, hx⟩)
    go_ret
    exact ⟨rfl, hB0.trans (hx.mono hB0.size)⟩
  · by_cases h : goodR F S R C H = true
    · have HH := Lib.hid h
      obtain ⟨q1, q2, q3, q4, q5, q6, q7, q8, q9, q10⟩ := of_decide_eq_true h
      clear h
      go_enter Try.func7, Try.ntmps7
      go_wp2_with fail
      generalize (w.alloc (.cells #[.int .i64 F, .int .i64 S, .int .i64 R, .int .i64 C, .int .i64 H] 26)) = w1 at *
      have hk := hk0.drew
      have hB := hB0.drew
      go_region_held3 (fun w' => w'.cell? ⟨w.heap.size, 0, none⟩ = some (.int .i64 F) ∧ w'.cell? ⟨w.heap.size, 1, none⟩ = some (.int .i64 S) ∧ w'.cell? ⟨w.heap.size, 2, none⟩ = some (.int .i64 R) ∧ w'.cell? ⟨w.heap.size, 3, none⟩ = some (.int .i64 C) ∧ w'.cell? ⟨w.heap.size, 4, none⟩ = some (.int .i64 H)) (exact ⟨hk.cellv 0 rfl, hk.cellv 1 rfl, hk.cellv 2 rfl, hk.cellv 3 rfl, hk.cellv 4 rfl⟩)
        (first
          | (go_at_call 14; refine (new_yes F S R C H _ HH.out).mono ?_; rintro e w' ⟨g, rfl, hg, hd, hx⟩; have hgn := Nat.lt_of_lt_of_le hk.lt hg; have hk := hk.below hx hk.lt; have hB := hB.trans (hx.mono hB.size); clear hx)
          | (go_at_call 20; refine (refNew_yes F S R C H _ HH.out).mono ?_; rintro e w' ⟨m, rfl, hm, he, hx⟩; have hmg := Nat.lt_of_lt_of_le hd.lt hm; have hk := hk.below hx hk.lt; have hd := hd.below hx hd.lt; have hB := hB.trans (hx.mono hB.size); clear hx))
      clear hk0 hB0
      have c0 := hk.cellv 0 (v := .int .i64 F) rfl
      have c1 := hk.cellv 1 (v := .int .i64 S) rfl
      have c2 := hk.cellv 2 (v := .int .i64 R) rfl
      have c3 := hk.cellv 3 (v := .int .i64 C) rfl
      have c4 := hk.cellv 4 (v := .int .i64 H) rfl
      go_wp2_with fail
      refine (good_yes F S R C H _ HH.out).mono ?_
      rintro e w2 ⟨rfl, hx⟩
      have hd := hd.below hx hd.lt
      have he := he.below hx he.lt
      have hB := hB.trans (hx.mono hB.size)
      clear hx c0 c1 c2 c3 c4 hk hm hg
      go_wp2_with fail
      go_loopw [41] (fun i wr => ∃ (k : Nat) (p : Int) (hh : Bool), k ≤ n ∧ i = .int .i64 k ∧ 0 ≤ p ∧ p ≤ C ∧ Blk wr g 36 (dampCs F S R C H p hh) ∧ Blk wr m 44 (dampCs F S R C H p hh) ∧ Below w.heap.size w wr) (fun i _ => n - (intOf i).toNat)
      case atStart => exact ⟨0, 0, false, by omega, rfl, by omega, by omega, hd, he, hB⟩
      case round =>
        obtain ⟨k, p, hh, hkn, rfl, p1, p2, hd, he, hB⟩ := hrel
        by_cases c : k < n
        · obtain ⟨b0, off, rfl, hb0, hc⟩ := (hI.below hB) (by omega)
          have hck := hc k c
          clear hc
          obtain ⟨bk, hbk⟩ : ∃ bk, bs k = bk := ⟨_, rfl⟩
          simp only [hbk] at hck
          clear hbk
          have key : ∀ (q : Int) (h2 : Bool) (w5 : World), 0 ≤ q → q ≤ C → Blk w5 g 36 (dampCs F S R C H q h2) → Blk w5 m 44 (dampCs F S R C H q h2) → Below w.heap.size w w5 → True := fun _ _ _ _ _ _ _ _ => trivial
          clear key
          cases bk with
          | true =>
            go_wp2_with fail
            refine (flap_any F S R C H p hh g _ (by omega) (by omega) (by omega) (by omega) hd).mono ?_
            rintro e w4 ⟨rfl, hd, hx⟩
            have he := he.grown hx (by intro e; injection e with e; omega)
            have hB := below_own hB hx hB.size (by omega)
            clear hx
            go_wp2_with fail
            refine (refFlap_any F S R C H p hh m _ (by omega) (by omega) (by omega) (by omega) he).mono ?_
            rintro e w5 ⟨rfl, he, hx⟩
            have hd := hd.grown hx (by intro e; injection e with e; omega)
            have hB := below_own hB hx hB.size (by omega)
            clear hx hck
            have d1 : 0 ≤ lowest (p + F) C ∧ lowest (p + F) C ≤ C := by unfold lowest; split <;> omega
            obtain ⟨d1, d2⟩ := d1
            generalize lowest (p + F) C = q at *
            generalize (hh || decide (S ≤ q)) = h2 at *
            have e1 := he.cellv 5 (v := .int .i64 q) rfl
            have e2 := he.cellv 6 (v := .bool h2) rfl
            go_wp2_with fail
            go_quiet ((first | (go_at_call 18; exact quiet_left (penalty_any F S R C H q h2 g _ (by omega) hd)) | (go_at_call 16; first | exact quiet_left (held_any F S R C H q h2 g _ (by omega) hd) | exact quiet_add_left (held_any F S R C H q h2 g _ (by omega) hd))))
            go_wp2_with fail
            go_roundw
            case rel => exact ⟨k + 1, q, h2, by omega, by go_num, d1, d2, hd, he, below_drewN hB _⟩
            case measure => simp [intOf]; omega
          | false =>
            go_wp2_with fail
            refine (tick_any F S R C H p hh g _ (by omega) (by omega) (by omega) hd).mono ?_
            rintro e w4 ⟨rfl, hd, hx⟩
            have he := he.grown hx (by intro e; injection e with e; omega)
            have hB := below_own hB hx hB.size (by omega)
            clear hx
            go_wp2_with fail
            refine (refTick_any F S R C H p hh m _ (by omega) (by omega) (by omega) he).mono ?_
            rintro e w5 ⟨rfl, he, hx⟩
            have hd := hd.grown hx (by intro e; injection e with e; omega)
            have hB := below_own hB hx hB.size (by omega)
            clear hx hck
            have d1 := decay_lo p H
            have d2 : decay p H ≤ C := by have := decay_le p H p1; omega
            generalize decay p H = q at *
            generalize (hh && decide (R < q)) = h2 at *
            have e1 := he.cellv 5 (v := .int .i64 q) rfl
            have e2 := he.cellv 6 (v := .bool h2) rfl
            go_wp2_with fail
            go_quiet ((first | (go_at_call 18; exact quiet_left (penalty_any F S R C H q h2 g _ (by omega) hd)) | (go_at_call 16; first | exact quiet_left (held_any F S R C H q h2 g _ (by omega) hd) | exact quiet_add_left (held_any F S R C H q h2 g _ (by omega) hd))))
            go_wp2_with fail
            go_roundw
            case rel => exact ⟨k + 1, q, h2, by omega, by go_num, d1, d2, hd, he, below_drewN hB _⟩
            case measure => simp [intOf]; omega
        · go_wp2_with fail
          refine (copy_any F S R C H p hh g _ (by omega) hd).mono ?_
          rintro e w4 ⟨rfl, hcp, hx⟩
          have hgc : g < wr.heap.size := hd.lt
          have hmc : m < wr.heap.size := he.lt
          have hd := hd.below hx hd.lt
          have he := he.below hx he.lt
          have hwc : w.heap.size ≤ wr.heap.size := hB.size
          have hB := hB.trans (hx.mono hB.size)
          obtain ⟨z, hz⟩ : ∃ z, z = wr.heap.size := ⟨_, rfl⟩
          rw [← hz] at hcp hgc hmc hwc ⊢
          clear hx hz
          go_wp2_with fail
          refine (flap_any F S R C H p hh z _ (by omega) (by omega) (by omega) (by omega) hcp).mono ?_
          rintro e w5 ⟨rfl, hcp, hx⟩
          have hd := hd.grown hx (by intro e; injection e with e; omega)
          have he := he.grown hx (by intro e; injection e with e; omega)
          have hB := below_own hB hx hB.size (by omega)
          have d1 : p ≤ lowest (p + F) C := by unfold lowest; split <;> omega
          generalize lowest (p + F) C = q at *
          generalize (hh || decide (S ≤ q)) = h2 at *
          clear hx
          go_wp2_with fail
          have hd := hd.drew
          have he := he.drew
          have hcp := hcp.drew
          have hB := hB.drew
          go_region_held3 (fun w' => w'.cell? ⟨m, 1 + 4, none⟩ = some (.int .i64 p)) (exact he.cellv 5 rfl)
            (first
              | (go_at_call 18; with_reducible refine (penalty_any F S R C H p hh g _ (by omega) hd).mono ?_; rintro e w' ⟨rfl, rfl⟩)
              | (go_at_call 18; with_reducible refine (penalty_any F S R C H q h2 z _ (by omega) hcp).mono ?_; rintro e w' ⟨rfl, rfl⟩)
              | (go_at_call 10; refine (lives_any _).mono ?_; rintro e w' ⟨rfl, hx⟩; have he := he.below hx he.lt; have hB := hB.trans (hx.mono hB.size); clear hx))
          all_goals go_wp2
          all_goals go_ret
          all_goals exact ⟨rfl, hB⟩
    · have HH := Lib.hid (show goodR F S R C H = false by simpa using h)
      clear h
      go_enter Try.func7, Try.ntmps7
      go_wp2_with fail
      generalize (w.alloc (.cells #[.int .i64 F, .int .i64 S, .int .i64 R, .int .i64 C, .int .i64 H] 26)) = w1 at *
      have hk := hk0.drew
      have hB := hB0.drew
      go_region_held3 (fun w' => w'.cell? ⟨w.heap.size, 0, none⟩ = some (.int .i64 F) ∧ w'.cell? ⟨w.heap.size, 1, none⟩ = some (.int .i64 S) ∧ w'.cell? ⟨w.heap.size, 2, none⟩ = some (.int .i64 R) ∧ w'.cell? ⟨w.heap.size, 3, none⟩ = some (.int .i64 C) ∧ w'.cell? ⟨w.heap.size, 4, none⟩ = some (.int .i64 H)) (exact ⟨hk.cellv 0 rfl, hk.cellv 1 rfl, hk.cellv 2 rfl, hk.cellv 3 rfl, hk.cellv 4 rfl⟩)
        (first
          | (go_at_call 14; refine (new_no F S R C H _ HH.out).mono ?_; rintro e w' ⟨rfl, hx⟩; have hk := hk.below hx hk.lt; have hB := hB.trans (hx.mono hB.size); clear hx)
          | (go_at_call 20; refine (refNew_no F S R C H _ HH.out).mono ?_; rintro e w' ⟨rfl, hx⟩; have hk := hk.below hx hk.lt; have hB := hB.trans (hx.mono hB.size); clear hx))
      clear hk0 hB0
      have c0 := hk.cellv 0 (v := .int .i64 F) rfl
      have c1 := hk.cellv 1 (v := .int .i64 S) rfl
      have c2 := hk.cellv 2 (v := .int .i64 R) rfl
      have c3 := hk.cellv 3 (v := .int .i64 C) rfl
      have c4 := hk.cellv 4 (v := .int .i64 H) rfl
      go_wp2_with fail
      refine (good_no F S R C H _ HH.out).mono ?_
      rintro e w2 ⟨rfl, hx⟩
      have hk := hk.below hx hk.lt
      have hB := hB.trans (hx.mono hB.size)
      clear hx c0 c1 c2 c3 c4
      have c0 := hk.cellv 0 (v := .int .i64 F) rfl
      have c1 := hk.cellv 1 (v := .int .i64 S) rfl
      have c2 := hk.cellv 2 (v := .int .i64 R) rfl
      have c3 := hk.cellv 3 (v := .int .i64 C) rfl
      have c4 := hk.cellv 4 (v := .int .i64 H) rfl
      go_wp2_with fail
      refine (ticks_no F S R C H _ HH.out).mono ?_
      rintro e w3 ⟨rfl, hx⟩
      have hB := hB.trans (hx.mono hB.size)
      clear hx c0 c1 c2 c3 c4
      go_wp2_with (go_at_call 10; refine (lives_any _).mono ?_; rintro e w' ⟨rfl, hx⟩)
      go_ret
      exact ⟨rfl, hB.trans (hx.mono hB.size)⟩

theorem acts_law (l : List Int) (A : Option Addr) (n cap : Nat) (bs : Nat → Bool) (w : World) (hl : l.length = 5) (_hw : ∀ z ∈ l, (Lit.int .i64 z).wf = true) (_hl : n ≤ cap) (_hm : cap ≤ maxLen) (hI : Flat w w.heap.size A n fun j => .bool (bs j)) :
    Calls Try.prog 7 #[.agg (l.map (Value.int .i64)).toArray, .slice A n cap] w fun e w' => e = .returned (.bool true) ∧ Below w.heap.size w w' := by
  match l, hl with
  | [F, S, R, C, H], _ => exact acts_walk F S R C H A n cap bs w hI
end Go.Proofs.Ythifahmhimbedaa
