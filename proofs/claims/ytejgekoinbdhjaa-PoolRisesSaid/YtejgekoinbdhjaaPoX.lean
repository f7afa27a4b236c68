/- pool: the document's Mark, Drain, Weigh, Copy, Remove. -/
import Derived.Test.YtejgekoinbdhjaaPoW
namespace Go.Proofs.Ytejgekoinbdhjaa
set_option linter.unusedVariables false
open Go Go.RowKit Go.Maps

def markR (L : List Mem) (id : Int) (up : Bool) : Int × List Mem := setR L id up (getM L id).dr (getM L id).wt
def drainR (L : List Mem) (id : Int) (dr : Bool) : Int × List Mem := setR L id (getM L id).up dr (getM L id).wt
def weighR (L : List Mem) (id : Int) (wt : Int) : Int × List Mem :=
  if (decide (0 ≤ findZ L id) && !wtB wt) = true then (2, L) else setR L id (getM L id).up (getM L id).dr wt
def remR (L : List Mem) (id : Int) : Bool × List Mem := match findF L id with
  | some k => (true, L.eraseIdx k)
  | none => (false, L)
set_option maxRecDepth 100000 in
set_option maxHeartbeats 2000000 in
theorem refMark25 (w : World) (X : Nat → Prop) (g : Nat) (pc : Int) (L : List Mem) (id : Int) (u : Bool) (h : RefIn w X g pc L) (hn : L.length ≤ 100000) (hX : ∀ b, w.heap.size ≤ b → X b) :
    Calls Try.prog 103 #[.pointer (some ⟨g, 0, none⟩), .int .i64 id, .bool u] w fun e w' => e = .returned (.int .i64 (markR L id u).1) ∧ RefIn w' X g pc (markR L id u).2 ∧ w.grownBy w' (some g) := by
  unfold markR
  have hc := refGet25 w X g pc L id h hn
  generalize getM L id = gm at *
  unfold memC at hc
  go_enter Try.func103, Try.ntmps103
  go_upto_region 2 with (go_at_call 105; refine hc.mono ?_; rintro e w2 ⟨rfl, hb2⟩)
  have hb3 := hb2.alloc hb2.size (.cells #[.int .i64 gm.id, .int .u32 gm.ad, .int .i64 gm.wt, .bool gm.up, .bool gm.dr] 173)
  have hq := Blk.new w2 173 #[.int .i64 gm.id, .int .u32 gm.ad, .int .i64 gm.wt, .bool gm.up, .bool gm.dr]
  generalize w2.alloc (.cells #[.int .i64 gm.id, .int .u32 gm.ad, .int .i64 gm.wt, .bool gm.up, .bool gm.dr] 173) = w3 at *
  have q0 : w3.cell? ⟨w2.heap.size, 2, none⟩ = some (.int .i64 gm.wt) := hq.cellv 2 rfl
  have q1 : w3.cell? ⟨w2.heap.size, 3, none⟩ = some (.bool gm.up) := hq.cellv 3 rfl
  have q2 : w3.cell? ⟨w2.heap.size, 4, none⟩ = some (.bool gm.dr) := hq.cellv 4 rfl
  go_wp2_with (go_at_call 169; refine (refSet25 w3 X g pc L id u gm.dr gm.wt (h.nx hb3) hn (fun b q => hX b (Nat.le_trans hb3.size q))).mono ?_; rintro e w4 ⟨rfl, h4, hg4⟩)
  go_ret
  exact ⟨rfl, h4, grown_trans (grown_of_below hb3 (Nat.le_refl _) _) hg4⟩
set_option maxRecDepth 100000 in
set_option maxHeartbeats 2000000 in
theorem refDrain25 (w : World) (X : Nat → Prop) (g : Nat) (pc : Int) (L : List Mem) (id : Int) (u : Bool) (h : RefIn w X g pc L) (hn : L.length ≤ 100000) (hX : ∀ b, w.heap.size ≤ b → X b) :
    Calls Try.prog 104 #[.pointer (some ⟨g, 0, none⟩), .int .i64 id, .bool u] w fun e w' => e = .returned (.int .i64 (drainR L id u).1) ∧ RefIn w' X g pc (drainR L id u).2 ∧ w.grownBy w' (some g) := by
  unfold drainR
  have hc := refGet25 w X g pc L id h hn
  generalize getM L id = gm at *
  unfold memC at hc
  go_enter Try.func104, Try.ntmps104
  go_upto_region 2 with (go_at_call 105; refine hc.mono ?_; rintro e w2 ⟨rfl, hb2⟩)
  have hb3 := hb2.alloc hb2.size (.cells #[.int .i64 gm.id, .int .u32 gm.ad, .int .i64 gm.wt, .bool gm.up, .bool gm.dr] 173)
  have hq := Blk.new w2 173 #[.int .i64 gm.id, .int .u32 gm.ad, .int .i64 gm.wt, .bool gm.up, .bool gm.dr]
  generalize w2.alloc (.cells #[.int .i64 gm.id, .int .u32 gm.ad, .int .i64 gm.wt, .bool gm.up, .bool gm.dr] 173) = w3 at *
  have q0 : w3.cell? ⟨w2.heap.size, 2, none⟩ = some (.int .i64 gm.wt) := hq.cellv 2 rfl
  have q1 : w3.cell? ⟨w2.heap.size, 3, none⟩ = some (.bool gm.up) := hq.cellv 3 rfl
  have q2 : w3.cell? ⟨w2.heap.size, 4, none⟩ = some (.bool gm.dr) := hq.cellv 4 rfl
  go_wp2_with (go_at_call 169; refine (refSet25 w3 X g pc L id gm.up u gm.wt (h.nx hb3) hn (fun b q => hX b (Nat.le_trans hb3.size q))).mono ?_; rintro e w4 ⟨rfl, h4, hg4⟩)
  go_ret
  exact ⟨rfl, h4, grown_trans (grown_of_below hb3 (Nat.le_refl _) _) hg4⟩
set_option maxRecDepth 100000 in
set_option maxHeartbeats 2000000 in
theorem refWeigh25 (w : World) (X : Nat → Prop) (g : Nat) (pc : Int) (L : List Mem) (id : Int) (u : Int) (h : RefIn w X g pc L) (hn : L.length ≤ 100000) (hX : ∀ b, w.heap.size ≤ b → X b) :
    Calls Try.prog 102 #[.pointer (some ⟨g, 0, none⟩), .int .i64 id, .int .i64 u] w fun e w' => e = .returned (.int .i64 (weighR L id u).1) ∧ RefIn w' X g pc (weighR L id u).2 ∧ w.grownBy w' (some g) := by
  have hc := fun (w : World) (h : RefIn w X g pc L) => refGet25 w X g pc L id h hn
  generalize hgm : getM L id = gm at hc
  unfold memC at hc
  go_enter Try.func102, Try.ntmps102
  go_upto_region 1 with (fail)
  by_cases hbad : (decide (0 ≤ findZ L id) && !wtB u) = true
  · have e : weighR L id u = (2, L) := by unfold weighR; rw [if_pos hbad]
    replace e := Lib.hid e
    simp only [Bool.and_eq_true, decide_eq_true_eq, Bool.not_eq_true'] at hbad
    have h1 := hbad.1
    have h2 := hbad.2
    unfold wtB at h2
    simp only [Bool.and_eq_false_iff, decide_eq_false_iff_not] at h2
    go_wp2_with (go_at_call 106; refine (refFind25 w X g pc L id h hn).mono ?_; rintro e w2 ⟨rfl, hb⟩)
    all_goals first
      | (go_ret; rw [e.out]; exact ⟨rfl, h.nx hb, grown_of_below hb (Nat.le_refl _) _⟩)
      | (exfalso; omega)
  have e : weighR L id u = setR L id gm.up gm.dr u := by unfold weighR; rw [if_neg hbad, hgm]
  replace e := Lib.hid e
  have hgood : findZ L id < 0 ∨ (0 ≤ u ∧ u ≤ 100) := by
    simp only [Bool.and_eq_true, decide_eq_true_eq, Bool.not_eq_true', not_and, Bool.not_eq_false] at hbad
    by_cases h0 : 0 ≤ findZ L id
    · have := hbad h0
      unfold wtB at this
      simp at this
      exact .inr this
    · exact .inl (by omega)
  clear hbad
  have d1 : decide (u < 0) = decide (u < 0) := rfl
  go_upto_region 3 with (go_at_call 106; refine (refFind25 w X g pc L id h hn).mono ?_; rintro e w1 ⟨rfl, hb⟩)
  --@a show
  all_goals try (exfalso; omega)
  all_goals (
    have h1 := h.nx hb
    go_upto_region 4 with (go_at_call 105; refine (hc w1 h1).mono ?_; rintro e w2 ⟨rfl, hb2⟩)
    have hb3 := (hb.trans (hb2.mono hb.size)).alloc (Nat.le_trans hb.size hb2.size) (.cells #[.int .i64 gm.id, .int .u32 gm.ad, .int .i64 gm.wt, .bool gm.up, .bool gm.dr] 173)
    have hq := Blk.new w2 173 #[.int .i64 gm.id, .int .u32 gm.ad, .int .i64 gm.wt, .bool gm.up, .bool gm.dr]
    generalize w2.alloc (.cells #[.int .i64 gm.id, .int .u32 gm.ad, .int .i64 gm.wt, .bool gm.up, .bool gm.dr] 173) = w3 at *
    have q1 : w3.cell? ⟨w2.heap.size, 3, none⟩ = some (.bool gm.up) := hq.cellv 3 rfl
    have q2 : w3.cell? ⟨w2.heap.size, 4, none⟩ = some (.bool gm.dr) := hq.cellv 4 rfl
    go_wp2_with (go_at_call 169; refine (refSet25 w3 X g pc L id gm.up gm.dr u (h.nx hb3) hn (fun b q => hX b (Nat.le_trans hb3.size q))).mono ?_; rintro e w4 ⟨rfl, h4, hg4⟩)
    go_ret
    rw [e.out]
    exact ⟨rfl, h4, grown_trans (grown_of_below hb3 (Nat.le_refl _) _) hg4⟩)
end Go.Proofs.Ytejgekoinbdhjaa
