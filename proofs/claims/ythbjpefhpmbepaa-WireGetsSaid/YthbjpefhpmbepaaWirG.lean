/- wire: get. -/
import Derived.Test.YthbjpefhpmbepaaWirS
namespace Go.Proofs.Ythbjpefhpmbepaa
set_option linter.unusedVariables false
open Go.RowKit

/-- both sources stand at s. -/
structure Two (w : World) (lo g gm : Nat) (s : St) : Prop where
  src : Src w g s
  ref : Ref w lo gm s
  hlo : g < lo
  hgm : g < gm
theorem Two.below {w w' : World} {lo g gm : Nat} {s : St} {B : Nat} (h : Two w lo g gm s) (hb : Below B w w') (hg : gm < B) : Two w' lo g gm s := ⟨h.src.below hb (by have := h.hgm; omega), h.ref.below hb hg, h.hlo, h.hgm⟩

set_option maxHeartbeats 2000000 in
theorem getk_any (w : World) (B lo g gm : Nat) (s : St) (h : Two w lo g gm s) (hBg : B ≤ g) (hB : B ≤ w.heap.size) (k m : Int) (hk : 0 ≤ k) (hk2 : k ≤ 2) :
    Calls Try.prog 23 #[.pointer (some ⟨g, 0, none⟩), .pointer (some ⟨gm, 0, none⟩), .agg #[.int .i64 k, .int .i64 m]] w fun e w' => ∃ s', e = .returned (.bool true) ∧ Two w' lo g gm s' ∧ Below B w w' := by
  have hw0 := Blk.new w 49 #[.int .i64 k, .int .i64 m]
  have hb0 := (Below.refl B w).alloc hB (.cells #[.int .i64 k, .int .i64 m] 49)
  have h0 := h.below ((Below.refl w.heap.size w).alloc (Nat.le_refl _) (.cells #[.int .i64 k, .int .i64 m] 49)) h.ref.lt
  have c0 := hw0.cellv 0 (v := .int .i64 k) rfl
  have hlo := h.hlo
  have hgm := h.hgm
  go_enter Try.func23, Try.ntmps23
  have hkc : k = 0 ∨ k = 1 ∨ k = 2 := by omega
  rcases hkc with rfl | rfl | rfl
  · go_wp2_with fail
    refine (u8_any _ g s h0.src).mono ?_
    rintro e w1 ⟨rfl, hs1, hg1⟩
    have hr1 := h0.ref.grown hg1 hlo hgm
    have hb1 := below_own hb0 hg1 (Nat.le_trans hB hb0.size) hBg
    go_wp2_with fail
    refine (refU8_any _ lo gm s hr1).mono ?_
    rintro e w2 ⟨rfl, hr2, hg2⟩
    have hs2 := hs1.grown hg2 hgm
    have hb2 := below_own hb1 hg2 (Nat.le_trans hB hb1.size) (by omega)
    go_wp2_with fail
    go_ret
    exact ⟨_, ret_bool (by simp), ⟨hs2, hr2, hlo, hgm⟩, hb2⟩
  · go_wp2_with fail
    refine (u16_any _ g s h0.src).mono ?_
    rintro e w1 ⟨rfl, hs1, hg1⟩
    have hr1 := h0.ref.grown hg1 hlo hgm
    have hb1 := below_own hb0 hg1 (Nat.le_trans hB hb0.size) hBg
    go_wp2_with fail
    refine (refU16_any _ lo gm s hr1).mono ?_
    rintro e w2 ⟨rfl, hr2, hg2⟩
    have hs2 := hs1.grown hg2 hgm
    have hb2 := below_own hb1 hg2 (Nat.le_trans hB hb1.size) (by omega)
    go_wp2_with fail
    go_ret
    exact ⟨_, ret_bool (by simp), ⟨hs2, hr2, hlo, hgm⟩, hb2⟩
  · go_wp2_with fail
    refine (u32_any _ g s h0.src).mono ?_
    rintro e w1 ⟨rfl, hs1, hg1⟩
    have hr1 := h0.ref.grown hg1 hlo hgm
    have hb1 := below_own hb0 hg1 (Nat.le_trans hB hb0.size) hBg
    go_wp2_with fail
    refine (refU32_any _ lo gm s hr1).mono ?_
    rintro e w2 ⟨rfl, hr2, hg2⟩
    have hs2 := hs1.grown hg2 hgm
    have hb2 := below_own hb1 hg2 (Nat.le_trans hB hb1.size) (by omega)
    go_wp2_with fail
    go_ret
    exact ⟨_, ret_bool (by simp), ⟨hs2, hr2, hlo, hgm⟩, hb2⟩

set_option maxHeartbeats 4000000 in
theorem get4_any (w : World) (B lo g gm : Nat) (s : St) (h : Two w lo g gm s) (hBg : B ≤ g) (hB : B ≤ w.heap.size) (m : Int) :
    Calls Try.prog 23 #[.pointer (some ⟨g, 0, none⟩), .pointer (some ⟨gm, 0, none⟩), .agg #[.int .i64 4, .int .i64 m]] w fun e w' => ∃ s', e = .returned (.bool true) ∧ Two w' lo g gm s' ∧ Below B w w' := by
  have hw0 := Blk.new w 49 #[.int .i64 4, .int .i64 m]
  have hb0 := (Below.refl B w).alloc hB (.cells #[.int .i64 4, .int .i64 m] 49)
  have h0 := h.below ((Below.refl w.heap.size w).alloc (Nat.le_refl _) (.cells #[.int .i64 4, .int .i64 m] 49)) h.ref.lt
  have c0 := hw0.cellv 0 (v := .int .i64 4) rfl
  have hlo := h.hlo
  have hgm := h.hgm
  go_enter Try.func23, Try.ntmps23
  go_wp2_with fail
  generalize w.alloc (.cells #[.int .i64 4, .int .i64 m] 49) = w0 at *
  have hb0d := hb0.drew
  have hs0 : Src w0.drew g s := h0.src
  have hr0 : Ref w0.drew lo gm s := h0.ref
  clear h h0 hw0 c0
  go_region_with (first
    | (go_at_call 20; refine (rest_any _ g s hs0).mono ?_; rintro e w1 ⟨v1, rfl, hown1, hs1, hg1⟩; have hcv1 := hown1.str; have hr1 := hr0.grown hg1 hlo hgm; have hb1 := below_own hb0d hg1 (Nat.le_trans hB hb0d.size) hBg)
    | (go_at_call 40; refine (refRest_any _ lo gm s hr1).mono ?_; rintro e w2 ⟨v2, rfl, hown2, hr2, hg2⟩; have hcv2 := hown2.str; have hcv1' := (hown1.kept hg2 (by rcases hown1.2 with ⟨q, _⟩ | ⟨gg, _, _, q, hq, _⟩ <;> rw [q] <;> simp [Value.ownBlock]; have := hr0.lt; omega)).str; have hs2 := hs1.grown hg2 hgm; have hb2 := below_own hb1 hg2 (Nat.le_trans hB hb1.size) (Nat.le_trans hBg (Nat.le_of_lt hgm))))
  all_goals (go_wp2_with fail; go_ret; exact ⟨_, rfl, ⟨hs2, hr2, hlo, hgm⟩, hb2⟩)
end Go.Proofs.Ythbjpefhpmbepaa
