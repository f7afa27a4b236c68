/- policy: Same of attributes alike, lives, PolicyAttrs walked. -/
import Derived.Test.YthbfnppgaaeilaaDoorCdE
namespace Go.Proofs.YthbfnppgaaeilaaDoor
set_option linter.unusedVariables false
open Go Go.RowKit

/-- n ints that are all s. -/
def Rep (w : World) (A : Option Addr) (n : Nat) (s : Int) : Prop := 0 < n → ∃ b off, A = some ⟨b, off, none⟩ ∧ b < w.heap.size ∧ ∀ j, j < n → w.cell? ⟨b, off + j, none⟩ = some (.int .i64 s)
theorem Rep.below {w w' : World} {A : Option Addr} {n : Nat} {s : Int} (h : Rep w A n s) (hb : Below w.heap.size w w') : Rep w' A n s := fun hn => by
  obtain ⟨b, off, e, hl, hc⟩ := h hn
  exact ⟨b, off, e, Nat.lt_of_lt_of_le hl hb.size, fun j hj => (hb.cell (p := ⟨b, off + j, none⟩) hl).trans (hc j hj)⟩
/-- what Attrs tells. -/
def AttT (ok : Bool) (h md : Int) (n : Nat) (s : Int) (w w' : World) (e : Ending) : Prop := ∃ A c, e = .returned (.tuple #[.agg #[.int .i64 0, .slice A n c, .int .u32 h, .int .i64 md, .bool ok], .bool ok]) ∧ n ≤ c ∧ Rep w' A n s ∧ Below w.heap.size w w'
theorem T_bad (s h m p b lv : Int) (w : World) (h0 : 0 ≤ h) (h1 : h ≤ 4294967295) (hg : goodV s h m p b = false) :
    Calls Tryd.prog 5 #[.agg #[.int .i64 s, .int .u32 h, .int .i64 m, .int .i64 p, .int .i64 b], .int .i64 lv] w fun e w' => AttT false 0 0 0 s w w' e := by
  refine (attrs_bad s h m p b lv w h0 h1 hg).mono ?_
  rintro e w' ⟨rfl, hb⟩
  exact ⟨none, 0, rfl, Nat.le_refl _, fun hn => absurd hn (by omega), hb⟩
theorem T_lvl (s h m p b lv : Int) (w : World) (h0 : 0 ≤ h) (h1 : h ≤ 4294967295) (hg : goodV s h m p b = true) (l1 : lv ≠ 1) (l2 : lv ≠ 2) :
    Calls Tryd.prog 5 #[.agg #[.int .i64 s, .int .u32 h, .int .i64 m, .int .i64 p, .int .i64 b], .int .i64 lv] w fun e w' => AttT false 0 0 0 s w w' e := by
  refine (attrs_lvl s h m p b lv w h0 h1 hg (by unfold inV; simp; omega)).mono ?_
  rintro e w' ⟨rfl, hb⟩
  exact ⟨none, 0, rfl, Nat.le_refl _, fun hn => absurd hn (by omega), hb⟩
theorem T_norm (s h m p b : Int) (w : World) (h0 : 0 ≤ h) (h1 : h ≤ 4294967295) (hg : goodV s h m p b = true) :
    Calls Tryd.prog 5 #[.agg #[.int .i64 s, .int .u32 h, .int .i64 m, .int .i64 p, .int .i64 b], .int .i64 1] w fun e w' => AttT true h m 1 s w w' e := by
  refine (attrs_norm s h m p b w h0 h1 hg).mono ?_
  rintro e w' ⟨g, rfl, hg, hq, hb⟩
  exact ⟨_, 1, rfl, Nat.le_refl _, fun _ => ⟨g, 0, rfl, hq.lt, fun j hj => by
    obtain rfl : j = 0 := by omega
    exact hq.cellv 0 rfl⟩, hb⟩
theorem T_fall (s h m b : Int) (p : Nat) (w : World) (h0 : 0 ≤ h) (h1 : h ≤ 4294967295) (hg : goodV s h m p b = true) :
    Calls Tryd.prog 5 #[.agg #[.int .i64 s, .int .u32 h, .int .i64 m, .int .i64 (p : Int), .int .i64 b], .int .i64 2] w fun e w' => AttT true h b (p + 1) s w w' e := by
  have hpp : p ≤ 15 ∧ (1 ≤ s ∧ s ≤ 65535) := by
    obtain ⟨e1, _, _, _, e5⟩ := good_parts hg
    exact ⟨by omega, e1⟩
  refine (attrs_fall s h m b p w hpp.1 hpp.2 (fun w => by have := good_any s h m p b w h0 h1; rwa [hg] at this)).mono ?_
  rintro e w' ⟨v, B, rfl, hB, own, hb⟩
  obtain ⟨g, cap, rfl, hg1, hg2, hcap, _⟩ := own.form (by omega)
  refine ⟨_, cap, rfl, hcap, fun _ => ⟨g, 0, rfl, hg2, fun j hj => ?_⟩, hb⟩
  rw [Nat.zero_add, own.cell j (by omega), List.getElem?_replicate, if_pos hj]
theorem refT_bad (s h m p b lv : Int) (w : World) (h0 : 0 ≤ h) (h1 : h ≤ 4294967295) (hg : goodV s h m p b = false) :
    Calls Tryd.prog 6 #[.agg #[.int .i64 s, .int .u32 h, .int .i64 m, .int .i64 p, .int .i64 b], .int .i64 lv] w fun e w' => AttT false 0 0 0 s w w' e := by
  refine (refAttrs_bad s h m p b lv w h0 h1 hg).mono ?_
  rintro e w' ⟨rfl, hb⟩
  exact ⟨none, 0, rfl, Nat.le_refl _, fun hn => absurd hn (by omega), hb⟩
theorem refT_lvl (s h m p b lv : Int) (w : World) (h0 : 0 ≤ h) (h1 : h ≤ 4294967295) (hg : goodV s h m p b = true) (l1 : lv ≠ 1) (l2 : lv ≠ 2) :
    Calls Tryd.prog 6 #[.agg #[.int .i64 s, .int .u32 h, .int .i64 m, .int .i64 p, .int .i64 b], .int .i64 lv] w fun e w' => AttT false 0 0 0 s w w' e := by
  refine (refAttrs_lvl s h m p b lv w h0 h1 hg l1 l2).mono ?_
  rintro e w' ⟨rfl, hb⟩
  exact ⟨none, 0, rfl, Nat.le_refl _, fun hn => absurd hn (by omega), hb⟩
theorem refT_norm (s h m p b : Int) (w : World) (h0 : 0 ≤ h) (h1 : h ≤ 4294967295) (hg : goodV s h m p b = true) :
    Calls Tryd.prog 6 #[.agg #[.int .i64 s, .int .u32 h, .int .i64 m, .int .i64 p, .int .i64 b], .int .i64 1] w fun e w' => AttT true h m 1 s w w' e := by
  refine (refAttrs_norm s h m p b w h0 h1 hg).mono ?_
  rintro e w' ⟨g, rfl, hg, hq, hb⟩
  exact ⟨_, 1, rfl, Nat.le_refl _, fun _ => ⟨g, 0, rfl, hq.lt, fun j hj => by
    obtain rfl : j = 0 := by omega
    exact hq.cellv 0 rfl⟩, hb⟩
theorem refT_fall (s h m b : Int) (p : Nat) (w : World) (h0 : 0 ≤ h) (h1 : h ≤ 4294967295) (hg : goodV s h m p b = true) :
    Calls Tryd.prog 6 #[.agg #[.int .i64 s, .int .u32 h, .int .i64 m, .int .i64 (p : Int), .int .i64 b], .int .i64 2] w fun e w' => AttT true h b (p + 1) s w w' e := by
  have hpp : p ≤ 15 ∧ (1 ≤ s ∧ s ≤ 65535) := by
    obtain ⟨e1, _, _, _, e5⟩ := good_parts hg
    exact ⟨by omega, e1⟩
  refine (refAttrs_fall s h m b p w hpp.1 hpp.2 (fun w => by have := refGood17_any s h m p b w h0 h1; rwa [hg] at this)).mono ?_
  rintro e w' ⟨v, B, rfl, hB, own, hb⟩
  obtain ⟨g, cap, rfl, hg1, hg2, hcap, _⟩ := own.form (by omega)
  refine ⟨_, cap, rfl, hcap, fun _ => ⟨g, 0, rfl, hg2, fun j hj => ?_⟩, hb⟩
  rw [Nat.zero_add, own.cell j (by omega), List.getElem?_replicate, if_pos hj]
set_option maxRecDepth 100000 in
set_option maxHeartbeats 8000000 in
theorem sameAlike_any (w : World) (ok : Bool) (h md : Int) (n : Nat) (s : Int) (A A' : Option Addr) (c c' : Nat) (hx : Rep w A n s) (hx' : Rep w A' n s) (hn : n ≤ 100) :
    Calls Tryd.prog 8 #[.agg #[.int .i64 0, .slice A n c, .int .u32 h, .int .i64 md, .bool ok], .agg #[.int .i64 0, .slice A' n c', .int .u32 h, .int .i64 md, .bool ok]] w fun e w' => e = .returned (.bool true) ∧ Below w.heap.size w w' := by
  have hB := ((Below.refl w.heap.size w).alloc (Nat.le_refl _) (.cells #[.int .i64 0, .slice A n c, .int .u32 h, .int .i64 md, .bool ok] 30)).alloc (by simp) (.cells #[.int .i64 0, .slice A' n c', .int .u32 h, .int .i64 md, .bool ok] 30)
  have hq := (Blk.new w 30 #[.int .i64 0, .slice A n c, .int .u32 h, .int .i64 md, .bool ok]).alloc (.cells #[.int .i64 0, .slice A' n c', .int .u32 h, .int .i64 md, .bool ok] 30)
  have hq' : Blk ((w.alloc (.cells #[.int .i64 0, .slice A n c, .int .u32 h, .int .i64 md, .bool ok] 30)).alloc (.cells #[.int .i64 0, .slice A' n c', .int .u32 h, .int .i64 md, .bool ok] 30)) (w.heap.size + 1) 30 #[.int .i64 0, .slice A' n c', .int .u32 h, .int .i64 md, .bool ok] := by
    have := Blk.new (w.alloc (.cells #[.int .i64 0, .slice A n c, .int .u32 h, .int .i64 md, .bool ok] 30)) 30 #[.int .i64 0, .slice A' n c', .int .u32 h, .int .i64 md, .bool ok]
    simpa using this
  replace hx := hx.below hB
  replace hx' := hx'.below hB
  go_enter Tryd.func8, Tryd.ntmps8
  go_upto_region 1 with (fail)
  generalize ((w.alloc (.cells #[.int .i64 0, .slice A n c, .int .u32 h, .int .i64 md, .bool ok] 30)).alloc (.cells #[.int .i64 0, .slice A' n c', .int .u32 h, .int .i64 md, .bool ok] 30)) = w1 at *
  have q0 : w1.cell? ⟨w.heap.size, 0, none⟩ = some (.int .i64 0) := hq.cellv 0 rfl
  have q1 : w1.cell? ⟨w.heap.size, 1, none⟩ = some (.slice A n c) := hq.cellv 1 rfl
  have q2 : w1.cell? ⟨w.heap.size, 2, none⟩ = some (.int .u32 h) := hq.cellv 2 rfl
  have q3 : w1.cell? ⟨w.heap.size, 3, none⟩ = some (.int .i64 md) := hq.cellv 3 rfl
  have q4 : w1.cell? ⟨w.heap.size, 4, none⟩ = some (.bool ok) := hq.cellv 4 rfl
  have p0 : w1.cell? ⟨w.heap.size + 1, 0, none⟩ = some (.int .i64 0) := hq'.cellv 0 rfl
  have p1 : w1.cell? ⟨w.heap.size + 1, 1, none⟩ = some (.slice A' n c') := hq'.cellv 1 rfl
  have p2 : w1.cell? ⟨w.heap.size + 1, 2, none⟩ = some (.int .u32 h) := hq'.cellv 2 rfl
  have p3 : w1.cell? ⟨w.heap.size + 1, 3, none⟩ = some (.int .i64 md) := hq'.cellv 3 rfl
  have p4 : w1.cell? ⟨w.heap.size + 1, 4, none⟩ = some (.bool ok) := hq'.cellv 4 rfl
  have lt1 := hq.lt
  have lt2 := hq'.lt
  go_wp2_with fail
  clear q0 q1 q2 q3 q4 p0 p1 p2 p3 p4
  go_loopw [44] (fun i wr => Below w1.heap.size w1 wr ∧ ∃ k : Nat, k ≤ n ∧ i = .int .i64 k) (fun i _ => n - (intOf i).toNat)
  case atStart => exact ⟨Below.refl _ _, 0, Nat.zero_le _, rfl⟩
  case round =>
    obtain ⟨hK, k, hk, rfl⟩ := hrel
    have q1 : wr.cell? ⟨w.heap.size, 1, none⟩ = some (.slice A n c) := (hq.below hK hq.lt).cellv 1 rfl
    have p1 : wr.cell? ⟨w.heap.size + 1, 1, none⟩ = some (.slice A' n c') := (hq'.below hK hq'.lt).cellv 1 rfl
    by_cases hlt : k < n
    · obtain ⟨b, off, rfl, hl, hc⟩ := hx.below hK (by omega)
      obtain ⟨b', off', rfl, hl', hc'⟩ := hx'.below hK (by omega)
      have g1 := hc k hlt
      have g2 := hc' k hlt
      have i1 : ((k : Int) < n) := by omega
      have hin : (0 : Int) ≤ k := by omega
      go_wp2_with fail
      go_quiet (fail)
      go_wp2_with fail
      exact ⟨⟨below_drewN hK nq, k + 1, by omega, by go_num⟩, by simp [intOf]; omega⟩
    · obtain rfl : k = n := by omega
      go_wp2_with fail
      go_ret
      exact ⟨rfl, hB.trans (hK.mono hB.size)⟩
end Go.Proofs.YthbfnppgaaeilaaDoor
