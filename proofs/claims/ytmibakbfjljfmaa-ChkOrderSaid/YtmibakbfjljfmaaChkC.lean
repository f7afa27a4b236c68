/- chk: Update, Pseudo, and the law of sums of words. -/
import Derived.Test.YtmibakbfjljfmaaChkB
import Derived.Handy
import Derived.Deep.RegionHeld3
namespace Go.Proofs.Ytmibakbfjljfmaa
set_option linter.unusedVariables false
open Go.RowKit

theorem foldV_in (n : Int) (h : n ≤ 65535) : foldV n = n := by unfold foldV; rw [if_pos h]

set_option maxHeartbeats 400000 in
theorem update_any (s f t : Int) (w : World) :
    Calls Try.prog 15 #[.int .i64 s, .int .i64 f, .int .i64 t] w fun e w' => e = .returned (.int .i64 (65535 - foldV (foldV ((65535 - s % 65536) + (65535 - f % 65536)) + t % 65536))) ∧ w = w' := by
  have b1 := foldV_lo ((65535 - s % 65536) + (65535 - f % 65536)) (by omega)
  have b2 := foldV_hi ((65535 - s % 65536) + (65535 - f % 65536))
  have b3 := foldV_lo (foldV ((65535 - s % 65536) + (65535 - f % 65536)) + t % 65536) (by omega)
  have b4 := foldV_hi (foldV ((65535 - s % 65536) + (65535 - f % 65536)) + t % 65536)
  go_enter Try.func15, Try.ntmps15
  go_wp2_with fail
  refine (add_any _ _ _).mono ?_
  rintro e w' ⟨rfl, rfl⟩
  rw [Int.emod_eq_of_lt (a := 65535 - s % 65536) (by omega) (by omega), Int.emod_eq_of_lt (a := 65535 - f % 65536) (by omega) (by omega)]
  go_wp2_with fail
  refine (add_any _ _ _).mono ?_
  rintro e w' ⟨rfl, rfl⟩
  rw [Int.emod_eq_of_lt (a := foldV _) b1 (by omega)]
  go_wp2_with fail
  rw [Int.emod_eq_of_lt (a := foldV _) b3 (by omega)]
  go_ret
  exact ⟨rfl, rfl⟩

set_option maxHeartbeats 400000 in
theorem refUpdate_any (s f t : Int) (w : World) :
    Calls Try.prog 17 #[.int .i64 s, .int .i64 f, .int .i64 t] w fun e w' => e = .returned (.int .i64 (65535 - foldV (foldV ((65535 - s % 65536) + (65535 - f % 65536)) + t % 65536))) ∧ w = w' := by
  have b1 := foldV_lo ((65535 - s % 65536) + (65535 - f % 65536)) (by omega)
  have b2 := foldV_hi ((65535 - s % 65536) + (65535 - f % 65536))
  have b3 := foldV_lo (foldV ((65535 - s % 65536) + (65535 - f % 65536)) + t % 65536) (by omega)
  have b4 := foldV_hi (foldV ((65535 - s % 65536) + (65535 - f % 65536)) + t % 65536)
  go_enter Try.func17, Try.ntmps17
  go_wp2_with (go_at_call 22; refine (word_any _ _).mono ?_; rintro e w' ⟨rfl, rfl⟩)
  refine (refAdd_any _ _ _).mono ?_
  rintro e w' ⟨rfl, rfl⟩
  rw [Int.emod_eq_of_lt (a := 65535 - s % 65536) (by omega) (by omega), Int.emod_eq_of_lt (a := 65535 - f % 65536) (by omega) (by omega)]
  go_wp2_with fail
  refine (refAdd_any _ _ _).mono ?_
  rintro e w' ⟨rfl, rfl⟩
  rw [Int.emod_eq_of_lt (a := foldV _) b1 (by omega)]
  go_wp2_with fail
  go_ret
  exact ⟨rfl, rfl⟩

/-- the sum of a head that is not sent. -/
def pseudo (src dst p n : Int) : Int := foldV (src / 65536 + src % 65536 + dst / 65536 + dst % 65536 + p % 256 + n % 65536)

set_option maxHeartbeats 400000 in
theorem pseudo_any (src dst p n : Int) (w : World) (s1 : 0 ≤ src) (s2 : src ≤ 4294967295) (d1 : 0 ≤ dst) (d2 : dst ≤ 4294967295) :
    Calls Try.prog 18 #[.int .u32 src, .int .u32 dst, .int .i64 p, .int .i64 n] w fun e w' => e = .returned (.int .i64 (pseudo src dst p n)) ∧ w = w' := by
  have i0 : ∀ (x0 x1 x2 x3 x4 x5 : Value) (w : World), (Instr.index 41 (.agg #[x0, x1, x2, x3, x4, x5]) (.int .i64 0)).run Try.prog w = .ok x0 w := fun _ _ _ _ _ _ _ => by kernel_rfl
  have i1 : ∀ (x0 x1 x2 x3 x4 x5 : Value) (w : World), (Instr.index 41 (.agg #[x0, x1, x2, x3, x4, x5]) (.int .i64 1)).run Try.prog w = .ok x1 w := fun _ _ _ _ _ _ _ => by kernel_rfl
  have i2 : ∀ (x0 x1 x2 x3 x4 x5 : Value) (w : World), (Instr.index 41 (.agg #[x0, x1, x2, x3, x4, x5]) (.int .i64 2)).run Try.prog w = .ok x2 w := fun _ _ _ _ _ _ _ => by kernel_rfl
  have i3 : ∀ (x0 x1 x2 x3 x4 x5 : Value) (w : World), (Instr.index 41 (.agg #[x0, x1, x2, x3, x4, x5]) (.int .i64 3)).run Try.prog w = .ok x3 w := fun _ _ _ _ _ _ _ => by kernel_rfl
  have i4 : ∀ (x0 x1 x2 x3 x4 x5 : Value) (w : World), (Instr.index 41 (.agg #[x0, x1, x2, x3, x4, x5]) (.int .i64 4)).run Try.prog w = .ok x4 w := fun _ _ _ _ _ _ _ => by kernel_rfl
  have i5 : ∀ (x0 x1 x2 x3 x4 x5 : Value) (w : World), (Instr.index 41 (.agg #[x0, x1, x2, x3, x4, x5]) (.int .i64 5)).run Try.prog w = .ok x5 w := fun _ _ _ _ _ _ _ => by kernel_rfl
  go_enter Try.func18, Try.ntmps18
  go_wp2
  refine wp_loop_rounds 7 ?_
  repeat any_goals (rw [rounds_succ]; go_wp2_with (go_at_call 21; refine (fold_any _ _ (by omega)).mono ?_; rintro e w' ⟨rfl, rfl⟩))
  go_ret
  exact ⟨rfl, rfl⟩

def pBytes (src dst p n : Int) : List UInt8 := [byOf (src / 16777216), byOf (src / 65536), byOf (src / 256), byOf src, byOf (dst / 16777216), byOf (dst / 65536), byOf (dst / 256), byOf dst, byOf 0, byOf p, byOf (n / 256), byOf n]
theorem csum_pBytes (src dst p n : Int) (s1 : 0 ≤ src) (s2 : src ≤ 4294967295) (d1 : 0 ≤ dst) (d2 : dst ≤ 4294967295) : csum (pBytes src dst p n) = pseudo src dst p n := by
  unfold csum pseudo
  refine congrArg foldV ?_
  rw [show ((pBytes src dst p n).length + 1) / 2 = 6 from by simp [pBytes]]
  simp only [wsum, wordAt, byAt, pBytes, List.getElem?_cons_zero, List.getElem?_cons_succ, Nat.reduceMul, Nat.reduceAdd, Option.getD_some, byOf_val]
  omega
set_option maxHeartbeats 400000 in
theorem refPseudo_any (src dst p n : Int) (w : World) (s1 : 0 ≤ src) (s2 : src ≤ 4294967295) (d1 : 0 ≤ dst) (d2 : dst ≤ 4294967295) :
    Calls Try.prog 19 #[.int .u32 src, .int .u32 dst, .int .i64 p, .int .i64 n] w fun e w' => e = .returned (.int .i64 (pseudo src dst p n)) ∧ Below w.heap.size w w' := by
  go_enter Try.func19, Try.ntmps19
  go_wp2_with (go_at_call 22; refine (word_any _ _).mono ?_; rintro e w' ⟨rfl, rfl⟩)
  refine (refSum_any _ 12 12 (pBytes src dst p n) (by omega) _ ?_).mono ?_
  · have h := Byt.new w (pBytes src dst p n) 5 (0, 0)
    have e : byCells (pBytes src dst p n) = #[.int .u8 (src / 16777216), .int .u8 (src / 65536 % 256), .int .u8 (src / 256 % 256), .int .u8 (src % 256), .int .u8 (dst / 16777216), .int .u8 (dst / 65536 % 256), .int .u8 (dst / 256 % 256), .int .u8 (dst % 256), .int .u8 0, .int .u8 (p % 256), .int .u8 (n % 65536 / 256), .int .u8 (n % 256)] := by
      have e1 : n / 256 % 256 = n % 65536 / 256 := by omega
      have e2 : src / 16777216 % 256 = src / 16777216 := by omega
      have e3 : dst / 16777216 % 256 = dst / 16777216 := by omega
      simp [byCells, pBytes, byOf_val, e1, e2, e3]
    rw [e] at h
    simpa [show (pBytes src dst p n).length = 12 from rfl] using h
  · rintro e w' ⟨rfl, rfl⟩
    rw [csum_pBytes src dst p n s1 s2 d1 d2]
    go_wp2
    go_ret
    exact ⟨rfl, (Below.refl _ _).alloc (Nat.le_refl _) _⟩

set_option maxHeartbeats 400000 in
theorem adds_walk (a b : Int) (two : List Int) (w : World) (_wa : (Lit.int .i64 a).wf = true) (_wb : (Lit.int .i64 b).wf = true) (hl : two.length = 2) (h2 : ∀ z ∈ two, (Lit.int .u32 z).wf = true) :
    Calls Try.prog 7 #[.int .i64 a, .int .i64 b, .agg (two.map (Value.int .u32)).toArray] w fun e w' => e = .returned (.bool true) ∧ Below w.heap.size w w' := by
  match two, hl with
  | [x, y], _ =>
    obtain ⟨x1, x2⟩ := bounds_u32 (h2 x (by simp))
    obtain ⟨y1, y2⟩ := bounds_u32 (h2 y (by simp))
    clear h2
    obtain ⟨w1, hw1⟩ : ∃ w1, w1 = (w.alloc (.cells #[.int .u32 x, .int .u32 y] 34)).drew := ⟨_, rfl⟩
    have hB : Below w.heap.size w w1 := by rw [hw1]; exact ((Below.refl _ _).alloc (Nat.le_refl _) _).drew
    have c0 : w1.cell? ⟨w.heap.size, 0, none⟩ = some (.int .u32 x) := by rw [hw1]; simp [go_sem]
    have c1 : w1.cell? ⟨w.heap.size, 1, none⟩ = some (.int .u32 y) := by rw [hw1]; simp [go_sem]
    have hz : w.heap.size < w1.heap.size := by rw [hw1]; simp
    subst hw1
    go_enter Try.func7, Try.ntmps7
    go_wp2_with fail
    go_region_held3 (fun w' => w'.cell? ⟨w.heap.size, 0, none⟩ = some (.int .u32 x) ∧ w'.cell? ⟨w.heap.size, 1, none⟩ = some (.int .u32 y) ∧ Below w.heap.size w w') (exact ⟨c0, c1, hB⟩)
      (first
        | (go_at_call 14; refine (add_any _ _ _).mono ?_; rintro e w' ⟨rfl, rfl⟩)
        | (go_at_call 16; refine (refAdd_any _ _ _).mono ?_; rintro e w' ⟨rfl, rfl⟩)
        | (go_at_call 15; refine (update_any _ _ _ _).mono ?_; rintro e w' ⟨rfl, rfl⟩)
        | (go_at_call 17; refine (refUpdate_any _ _ _ _).mono ?_; rintro e w' ⟨rfl, rfl⟩)
        | (go_at_call 18; refine (pseudo_any _ _ _ _ _ x1 x2 y1 y2).mono ?_; rintro e w' ⟨rfl, rfl⟩)
        | (go_at_call 19; refine (refPseudo_any _ _ _ _ _ x1 x2 y1 y2).mono ?_; rintro e w' ⟨rfl, hb⟩; have c0 := (hb.cell (p := ⟨w.heap.size, 0, none⟩) hz).trans c0; have c1 := (hb.cell (p := ⟨w.heap.size, 1, none⟩) hz).trans c1; have hB := hB.trans (hb.mono hB.size); have hz := Nat.lt_of_lt_of_le hz hb.size; clear hb)
        | (go_at_call 8; refine (lives_any _).mono ?_; rintro e w' ⟨rfl, hb⟩; have c0 := (hb.cell (p := ⟨w.heap.size, 0, none⟩) hz).trans c0; have c1 := (hb.cell (p := ⟨w.heap.size, 1, none⟩) hz).trans c1; have hB := hB.trans (hb.mono hB.size); have hz := Nat.lt_of_lt_of_le hz hb.size; clear hb))
    all_goals go_wp2
    all_goals go_ret
    all_goals exact ⟨rfl, hB⟩
end Go.Proofs.Ytmibakbfjljfmaa
