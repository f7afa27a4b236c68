/- update: Size and Bytes, and the document's. -/
import Derived.Test.YtfnclmacodchfaaPfR
namespace Go.Proofs.Ytfnclmacodchfaa
set_option linter.unusedVariables false
open Go Go.RowKit

/-- a body's bytes. -/
def upB (l1 l2 : List (Int × Int)) (o : Int) (zs : List Int) (h m : Int) (b : Bool) : List UInt8 := if goodU l1 l2 o zs h m b = true ∧ (bodyB l1 l2 o zs h m b).length ≤ 4077 then bodyB l1 l2 o zs h m b else []
def upSize (l1 l2 : List (Int × Int)) (o : Int) (zs : List Int) (h m : Int) (b : Bool) : Int := if goodU l1 l2 o zs h m b = true then (bodyB l1 l2 o zs h m b).length else 0
set_option maxRecDepth 100000 in
set_option maxHeartbeats 4000000 in
theorem upSize_any (w : World) (A1 : Option Addr) (n1 c1 : Nat) (l1 : List (Int × Int)) (o : Int) (A : Option Addr) (n c : Nat) (zs : List Int) (h m : Int) (b : Bool) (A2 : Option Addr) (n2 c2 : Nat) (l2 : List (Int × Int)) (u : UpR w A1 n1 l1 A n zs h A2 n2 l2) (z1 : n1 ≤ 100000) (z2 : n2 ≤ 100000) (z3 : n ≤ 100000) : Calls Try.prog 14 #[.agg #[.slice A1 n1 c1, .int .i64 o, .slice A n c, .int .u32 h, .int .i64 m, .bool b, .slice A2 n2 c2]] w fun e w' => e = .returned (.int .i64 (upSize l1 l2 o zs h m b)) ∧ Below w.heap.size w w' := by
  have hB := (Below.refl w.heap.size w).alloc (Nat.le_refl _) (.cells #[.slice A1 n1 c1, .int .i64 o, .slice A n c, .int .u32 h, .int .i64 m, .bool b, .slice A2 n2 c2] 28)
  have hp := Blk.new w 28 #[.slice A1 n1 c1, .int .i64 o, .slice A n c, .int .u32 h, .int .i64 m, .bool b, .slice A2 n2 c2]
  have hlen : (bodyB l1 l2 o zs h m b).length ≤ 100000000 := by
    have hal := attU_le l2 o zs h m b
    have hp1 := pfAll_len l1
    have hp2 := pfAll_len l2
    have := u.s1.1
    have := u.s2.1
    unfold bodyB
    rw [List.length_append, List.length_append, cntB_len, cntB_len]
    omega
  go_enter Try.func14, Try.ntmps14
  go_upto_region 1 with (fail)
  generalize w.alloc (.cells #[.slice A1 n1 c1, .int .i64 o, .slice A n c, .int .u32 h, .int .i64 m, .bool b, .slice A2 n2 c2] 28) = w1 at *
  have hz := hB.size
  have u1 := u.nx hB
  have hgd := upGood_any w1 A1 n1 c1 l1 o A n c zs h m b A2 n2 c2 l2 u1 (by omega) (by omega) z3
  have q0 : w1.cell? ⟨w.heap.size, 0, none⟩ = some (.slice A1 n1 c1) := hp.cellv 0 rfl
  have q1 : w1.cell? ⟨w.heap.size, 1, none⟩ = some (.int .i64 o) := hp.cellv 1 rfl
  have q2 : w1.cell? ⟨w.heap.size, 2, none⟩ = some (.slice A n c) := hp.cellv 2 rfl
  have q3 : w1.cell? ⟨w.heap.size, 3, none⟩ = some (.int .u32 h) := hp.cellv 3 rfl
  have q4 : w1.cell? ⟨w.heap.size, 4, none⟩ = some (.int .i64 m) := hp.cellv 4 rfl
  have q5 : w1.cell? ⟨w.heap.size, 5, none⟩ = some (.bool b) := hp.cellv 5 rfl
  have q6 : w1.cell? ⟨w.heap.size, 6, none⟩ = some (.slice A2 n2 c2) := hp.cellv 6 rfl
  have ql := hp.lt
  cases hg : goodU l1 l2 o zs h m b
  · have e := Lib.hid (show (0 : Int) = upSize l1 l2 o zs h m b by unfold upSize; rw [hg]; rfl)
    rw [hg] at hgd
    replace hg := Lib.hid hg
    go_wp2_with (go_at_call 10; refine hgd.mono ?_; rintro e w2 ⟨rfl, hb2⟩; have hp2 := hp.below hb2 hp.lt; have u2 := u1.nx hb2; clear q0 q1 q2 q3 q4 q5 q6 ql; have q0 : w2.cell? ⟨w.heap.size, 0, none⟩ = some (.slice A1 n1 c1) := hp2.cellv 0 rfl; have q1 : w2.cell? ⟨w.heap.size, 1, none⟩ = some (.int .i64 o) := hp2.cellv 1 rfl; have q2 : w2.cell? ⟨w.heap.size, 2, none⟩ = some (.slice A n c) := hp2.cellv 2 rfl; have q3 : w2.cell? ⟨w.heap.size, 3, none⟩ = some (.int .u32 h) := hp2.cellv 3 rfl; have q4 : w2.cell? ⟨w.heap.size, 4, none⟩ = some (.int .i64 m) := hp2.cellv 4 rfl; have q5 : w2.cell? ⟨w.heap.size, 5, none⟩ = some (.bool b) := hp2.cellv 5 rfl; have q6 : w2.cell? ⟨w.heap.size, 6, none⟩ = some (.slice A2 n2 c2) := hp2.cellv 6 rfl; have ql := hp2.lt)
    go_ret
    exact ⟨ret_int e.out, hB.trans (hb2.mono hz)⟩
  · have e := Lib.hid (show ((bodyB l1 l2 o zs h m b).length : Int) = upSize l1 l2 o zs h m b by unfold upSize; rw [hg]; rfl)
    rw [hg] at hgd
    replace hg := Lib.hid hg
    go_wp2_with (first
      | (go_at_call 10; refine hgd.mono ?_; rintro e w2 ⟨rfl, hb2⟩; have hp2 := hp.below hb2 hp.lt; have u2 := u1.nx hb2; clear q0 q1 q2 q3 q4 q5 q6 ql; have q0 : w2.cell? ⟨w.heap.size, 0, none⟩ = some (.slice A1 n1 c1) := hp2.cellv 0 rfl; have q1 : w2.cell? ⟨w.heap.size, 1, none⟩ = some (.int .i64 o) := hp2.cellv 1 rfl; have q2 : w2.cell? ⟨w.heap.size, 2, none⟩ = some (.slice A n c) := hp2.cellv 2 rfl; have q3 : w2.cell? ⟨w.heap.size, 3, none⟩ = some (.int .u32 h) := hp2.cellv 3 rfl; have q4 : w2.cell? ⟨w.heap.size, 4, none⟩ = some (.int .i64 m) := hp2.cellv 4 rfl; have q5 : w2.cell? ⟨w.heap.size, 5, none⟩ = some (.bool b) := hp2.cellv 5 rfl; have q6 : w2.cell? ⟨w.heap.size, 6, none⟩ = some (.slice A2 n2 c2) := hp2.cellv 6 rfl; have ql := hp2.lt)
      | (go_at_call 31; refine (upBody_any w2 A1 n1 c1 l1 o A n c zs h m b A2 n2 c2 l2 u2 z1 z2 z3).mono ?_; rintro e w3 ⟨v3, rfl, own3, hb3⟩; obtain ⟨A3, c3, rfl, hc3, hcm3, by3, hA3⟩ := own3.any2; have hB3 := hB.trans ((hb2.trans (hb3.mono hb2.size)).mono hz)))
    go_ret
    exact ⟨ret_int e.out, hB3⟩
set_option maxRecDepth 100000 in
set_option maxHeartbeats 4000000 in
theorem upBytes_any (w : World) (A1 : Option Addr) (n1 c1 : Nat) (l1 : List (Int × Int)) (o : Int) (A : Option Addr) (n c : Nat) (zs : List Int) (h m : Int) (b : Bool) (A2 : Option Addr) (n2 c2 : Nat) (l2 : List (Int × Int)) (u : UpR w A1 n1 l1 A n zs h A2 n2 l2) (z1 : n1 ≤ 100000) (z2 : n2 ≤ 100000) (z3 : n ≤ 100000) : Calls Try.prog 12 #[.agg #[.slice A1 n1 c1, .int .i64 o, .slice A n c, .int .u32 h, .int .i64 m, .bool b, .slice A2 n2 c2]] w fun e w' => ∃ v, e = .returned v ∧ OwnB w' w.heap.size v (upB l1 l2 o zs h m b).length (upB l1 l2 o zs h m b) ∧ Below w.heap.size w w' := by
  have hB := (Below.refl w.heap.size w).alloc (Nat.le_refl _) (.cells #[.slice A1 n1 c1, .int .i64 o, .slice A n c, .int .u32 h, .int .i64 m, .bool b, .slice A2 n2 c2] 28)
  have hp := Blk.new w 28 #[.slice A1 n1 c1, .int .i64 o, .slice A n c, .int .u32 h, .int .i64 m, .bool b, .slice A2 n2 c2]
  have hlen : (bodyB l1 l2 o zs h m b).length ≤ 100000000 := by
    have hal := attU_le l2 o zs h m b
    have hp1 := pfAll_len l1
    have hp2 := pfAll_len l2
    have := u.s1.1
    have := u.s2.1
    unfold bodyB
    rw [List.length_append, List.length_append, cntB_len, cntB_len]
    omega
  go_enter Try.func12, Try.ntmps12
  go_upto_region 1 with (fail)
  generalize w.alloc (.cells #[.slice A1 n1 c1, .int .i64 o, .slice A n c, .int .u32 h, .int .i64 m, .bool b, .slice A2 n2 c2] 28) = w1 at *
  have hz := hB.size
  have u1 := u.nx hB
  have hgd := upGood_any w1 A1 n1 c1 l1 o A n c zs h m b A2 n2 c2 l2 u1 (by omega) (by omega) z3
  have q0 : w1.cell? ⟨w.heap.size, 0, none⟩ = some (.slice A1 n1 c1) := hp.cellv 0 rfl
  have q1 : w1.cell? ⟨w.heap.size, 1, none⟩ = some (.int .i64 o) := hp.cellv 1 rfl
  have q2 : w1.cell? ⟨w.heap.size, 2, none⟩ = some (.slice A n c) := hp.cellv 2 rfl
  have q3 : w1.cell? ⟨w.heap.size, 3, none⟩ = some (.int .u32 h) := hp.cellv 3 rfl
  have q4 : w1.cell? ⟨w.heap.size, 4, none⟩ = some (.int .i64 m) := hp.cellv 4 rfl
  have q5 : w1.cell? ⟨w.heap.size, 5, none⟩ = some (.bool b) := hp.cellv 5 rfl
  have q6 : w1.cell? ⟨w.heap.size, 6, none⟩ = some (.slice A2 n2 c2) := hp.cellv 6 rfl
  have ql := hp.lt
  cases hg : goodU l1 l2 o zs h m b
  · have e := Lib.hid (show [] = upB l1 l2 o zs h m b by unfold upB; rw [if_neg (by rw [hg]; simp)])
    rw [hg] at hgd
    replace hg := Lib.hid hg
    go_wp2_with (go_at_call 10; refine hgd.mono ?_; rintro e w2 ⟨rfl, hb2⟩; have hp2 := hp.below hb2 hp.lt; have u2 := u1.nx hb2; clear q0 q1 q2 q3 q4 q5 q6 ql; have q0 : w2.cell? ⟨w.heap.size, 0, none⟩ = some (.slice A1 n1 c1) := hp2.cellv 0 rfl; have q1 : w2.cell? ⟨w.heap.size, 1, none⟩ = some (.int .i64 o) := hp2.cellv 1 rfl; have q2 : w2.cell? ⟨w.heap.size, 2, none⟩ = some (.slice A n c) := hp2.cellv 2 rfl; have q3 : w2.cell? ⟨w.heap.size, 3, none⟩ = some (.int .u32 h) := hp2.cellv 3 rfl; have q4 : w2.cell? ⟨w.heap.size, 4, none⟩ = some (.int .i64 m) := hp2.cellv 4 rfl; have q5 : w2.cell? ⟨w.heap.size, 5, none⟩ = some (.bool b) := hp2.cellv 5 rfl; have q6 : w2.cell? ⟨w.heap.size, 6, none⟩ = some (.slice A2 n2 c2) := hp2.cellv 6 rfl; have ql := hp2.lt)
    go_ret
    exact ⟨_, rfl, by rw [← e.out]; exact OwnB.nil _ _, hB.trans (hb2.mono hz)⟩
  by_cases hk : (bodyB l1 l2 o zs h m b).length ≤ 4077
  · have e := Lib.hid (show bodyB l1 l2 o zs h m b = upB l1 l2 o zs h m b by unfold upB; rw [if_pos ⟨hg, hk⟩])
    rw [hg] at hgd
    replace hg := Lib.hid hg
    have hki : ((bodyB l1 l2 o zs h m b).length : Int) ≤ 4077 := by omega
    go_wp2_with (first
      | (go_at_call 10; refine hgd.mono ?_; rintro e w2 ⟨rfl, hb2⟩; have hp2 := hp.below hb2 hp.lt; have u2 := u1.nx hb2; clear q0 q1 q2 q3 q4 q5 q6 ql; have q0 : w2.cell? ⟨w.heap.size, 0, none⟩ = some (.slice A1 n1 c1) := hp2.cellv 0 rfl; have q1 : w2.cell? ⟨w.heap.size, 1, none⟩ = some (.int .i64 o) := hp2.cellv 1 rfl; have q2 : w2.cell? ⟨w.heap.size, 2, none⟩ = some (.slice A n c) := hp2.cellv 2 rfl; have q3 : w2.cell? ⟨w.heap.size, 3, none⟩ = some (.int .u32 h) := hp2.cellv 3 rfl; have q4 : w2.cell? ⟨w.heap.size, 4, none⟩ = some (.int .i64 m) := hp2.cellv 4 rfl; have q5 : w2.cell? ⟨w.heap.size, 5, none⟩ = some (.bool b) := hp2.cellv 5 rfl; have q6 : w2.cell? ⟨w.heap.size, 6, none⟩ = some (.slice A2 n2 c2) := hp2.cellv 6 rfl; have ql := hp2.lt)
      | (go_at_call 31; refine (upBody_any w2 A1 n1 c1 l1 o A n c zs h m b A2 n2 c2 l2 u2 z1 z2 z3).mono ?_; rintro e w3 ⟨v3, rfl, own3, hb3⟩; obtain ⟨A3, c3, rfl, hc3, hcm3, by3, hA3⟩ := own3.any2; have hB3 := hB.trans ((hb2.trans (hb3.mono hb2.size)).mono hz)))
    go_ret
    exact ⟨_, rfl, by rw [← e.out]; exact own3.less (Nat.le_trans hz hb2.size), hB3⟩
  · have e := Lib.hid (show [] = upB l1 l2 o zs h m b by unfold upB; rw [if_neg (fun q => hk q.2)])
    rw [hg] at hgd
    replace hg := Lib.hid hg
    have hki : ¬ (((bodyB l1 l2 o zs h m b).length : Int) ≤ 4077) := by omega
    go_wp2_with (first
      | (go_at_call 10; refine hgd.mono ?_; rintro e w2 ⟨rfl, hb2⟩; have hp2 := hp.below hb2 hp.lt; have u2 := u1.nx hb2; clear q0 q1 q2 q3 q4 q5 q6 ql; have q0 : w2.cell? ⟨w.heap.size, 0, none⟩ = some (.slice A1 n1 c1) := hp2.cellv 0 rfl; have q1 : w2.cell? ⟨w.heap.size, 1, none⟩ = some (.int .i64 o) := hp2.cellv 1 rfl; have q2 : w2.cell? ⟨w.heap.size, 2, none⟩ = some (.slice A n c) := hp2.cellv 2 rfl; have q3 : w2.cell? ⟨w.heap.size, 3, none⟩ = some (.int .u32 h) := hp2.cellv 3 rfl; have q4 : w2.cell? ⟨w.heap.size, 4, none⟩ = some (.int .i64 m) := hp2.cellv 4 rfl; have q5 : w2.cell? ⟨w.heap.size, 5, none⟩ = some (.bool b) := hp2.cellv 5 rfl; have q6 : w2.cell? ⟨w.heap.size, 6, none⟩ = some (.slice A2 n2 c2) := hp2.cellv 6 rfl; have ql := hp2.lt)
      | (go_at_call 31; refine (upBody_any w2 A1 n1 c1 l1 o A n c zs h m b A2 n2 c2 l2 u2 z1 z2 z3).mono ?_; rintro e w3 ⟨v3, rfl, own3, hb3⟩; obtain ⟨A3, c3, rfl, hc3, hcm3, by3, hA3⟩ := own3.any2; have hB3 := hB.trans ((hb2.trans (hb3.mono hb2.size)).mono hz)))
    go_ret
    exact ⟨_, rfl, by rw [← e.out]; exact OwnB.nil _ _, hB3⟩
set_option maxRecDepth 100000 in
set_option maxHeartbeats 4000000 in
theorem refUpSize_any (w : World) (A1 : Option Addr) (n1 c1 : Nat) (l1 : List (Int × Int)) (o : Int) (A : Option Addr) (n c : Nat) (zs : List Int) (h m : Int) (b : Bool) (A2 : Option Addr) (n2 c2 : Nat) (l2 : List (Int × Int)) (u : UpR w A1 n1 l1 A n zs h A2 n2 l2) (z1 : n1 ≤ 100000) (z2 : n2 ≤ 100000) (z3 : n ≤ 100000) : Calls Try.prog 15 #[.agg #[.slice A1 n1 c1, .int .i64 o, .slice A n c, .int .u32 h, .int .i64 m, .bool b, .slice A2 n2 c2]] w fun e w' => e = .returned (.int .i64 (upSize l1 l2 o zs h m b)) ∧ Below w.heap.size w w' := by
  have hB := (Below.refl w.heap.size w).alloc (Nat.le_refl _) (.cells #[.slice A1 n1 c1, .int .i64 o, .slice A n c, .int .u32 h, .int .i64 m, .bool b, .slice A2 n2 c2] 33)
  have hp := Blk.new w 33 #[.slice A1 n1 c1, .int .i64 o, .slice A n c, .int .u32 h, .int .i64 m, .bool b, .slice A2 n2 c2]
  have hlen : (bodyB l1 l2 o zs h m b).length ≤ 100000000 := by
    have hal := attU_le l2 o zs h m b
    have hp1 := pfAll_len l1
    have hp2 := pfAll_len l2
    have := u.s1.1
    have := u.s2.1
    unfold bodyB
    rw [List.length_append, List.length_append, cntB_len, cntB_len]
    omega
  go_enter Try.func15, Try.ntmps15
  go_upto_region 1 with (fail)
  generalize w.alloc (.cells #[.slice A1 n1 c1, .int .i64 o, .slice A n c, .int .u32 h, .int .i64 m, .bool b, .slice A2 n2 c2] 33) = w1 at *
  have hz := hB.size
  have u1 := u.nx hB
  have hgd := refUpGood_any w1 A1 n1 c1 l1 o A n c zs h m b A2 n2 c2 l2 u1 (by omega) (by omega) z3
  have q0 : w1.cell? ⟨w.heap.size, 0, none⟩ = some (.slice A1 n1 c1) := hp.cellv 0 rfl
  have q1 : w1.cell? ⟨w.heap.size, 1, none⟩ = some (.int .i64 o) := hp.cellv 1 rfl
  have q2 : w1.cell? ⟨w.heap.size, 2, none⟩ = some (.slice A n c) := hp.cellv 2 rfl
  have q3 : w1.cell? ⟨w.heap.size, 3, none⟩ = some (.int .u32 h) := hp.cellv 3 rfl
  have q4 : w1.cell? ⟨w.heap.size, 4, none⟩ = some (.int .i64 m) := hp.cellv 4 rfl
  have q5 : w1.cell? ⟨w.heap.size, 5, none⟩ = some (.bool b) := hp.cellv 5 rfl
  have q6 : w1.cell? ⟨w.heap.size, 6, none⟩ = some (.slice A2 n2 c2) := hp.cellv 6 rfl
  have ql := hp.lt
  cases hg : goodU l1 l2 o zs h m b
  · have e := Lib.hid (show (0 : Int) = upSize l1 l2 o zs h m b by unfold upSize; rw [hg]; rfl)
    rw [hg] at hgd
    replace hg := Lib.hid hg
    go_wp2_with (go_at_call 11; refine hgd.mono ?_; rintro e w2 ⟨rfl, hb2⟩; have hp2 := hp.below hb2 hp.lt; have u2 := u1.nx hb2; clear q0 q1 q2 q3 q4 q5 q6 ql; have q0 : w2.cell? ⟨w.heap.size, 0, none⟩ = some (.slice A1 n1 c1) := hp2.cellv 0 rfl; have q1 : w2.cell? ⟨w.heap.size, 1, none⟩ = some (.int .i64 o) := hp2.cellv 1 rfl; have q2 : w2.cell? ⟨w.heap.size, 2, none⟩ = some (.slice A n c) := hp2.cellv 2 rfl; have q3 : w2.cell? ⟨w.heap.size, 3, none⟩ = some (.int .u32 h) := hp2.cellv 3 rfl; have q4 : w2.cell? ⟨w.heap.size, 4, none⟩ = some (.int .i64 m) := hp2.cellv 4 rfl; have q5 : w2.cell? ⟨w.heap.size, 5, none⟩ = some (.bool b) := hp2.cellv 5 rfl; have q6 : w2.cell? ⟨w.heap.size, 6, none⟩ = some (.slice A2 n2 c2) := hp2.cellv 6 rfl; have ql := hp2.lt)
    go_ret
    exact ⟨ret_int e.out, hB.trans (hb2.mono hz)⟩
  · have e := Lib.hid (show ((bodyB l1 l2 o zs h m b).length : Int) = upSize l1 l2 o zs h m b by unfold upSize; rw [hg]; rfl)
    rw [hg] at hgd
    replace hg := Lib.hid hg
    go_wp2_with (first
      | (go_at_call 11; refine hgd.mono ?_; rintro e w2 ⟨rfl, hb2⟩; have hp2 := hp.below hb2 hp.lt; have u2 := u1.nx hb2; clear q0 q1 q2 q3 q4 q5 q6 ql; have q0 : w2.cell? ⟨w.heap.size, 0, none⟩ = some (.slice A1 n1 c1) := hp2.cellv 0 rfl; have q1 : w2.cell? ⟨w.heap.size, 1, none⟩ = some (.int .i64 o) := hp2.cellv 1 rfl; have q2 : w2.cell? ⟨w.heap.size, 2, none⟩ = some (.slice A n c) := hp2.cellv 2 rfl; have q3 : w2.cell? ⟨w.heap.size, 3, none⟩ = some (.int .u32 h) := hp2.cellv 3 rfl; have q4 : w2.cell? ⟨w.heap.size, 4, none⟩ = some (.int .i64 m) := hp2.cellv 4 rfl; have q5 : w2.cell? ⟨w.heap.size, 5, none⟩ = some (.bool b) := hp2.cellv 5 rfl; have q6 : w2.cell? ⟨w.heap.size, 6, none⟩ = some (.slice A2 n2 c2) := hp2.cellv 6 rfl; have ql := hp2.lt)
      | (go_at_call 32; refine (refUpBody_any w2 A1 n1 c1 l1 o A n c zs h m b A2 n2 c2 l2 u2 z1 z2 z3).mono ?_; rintro e w3 ⟨v3, rfl, own3, hb3⟩; obtain ⟨A3, c3, rfl, hc3, hcm3, by3, hA3⟩ := own3.any2; have hB3 := hB.trans ((hb2.trans (hb3.mono hb2.size)).mono hz)))
    go_ret
    exact ⟨ret_int e.out, hB3⟩
set_option maxRecDepth 100000 in
set_option maxHeartbeats 4000000 in
theorem refUpBytes_any (w : World) (A1 : Option Addr) (n1 c1 : Nat) (l1 : List (Int × Int)) (o : Int) (A : Option Addr) (n c : Nat) (zs : List Int) (h m : Int) (b : Bool) (A2 : Option Addr) (n2 c2 : Nat) (l2 : List (Int × Int)) (u : UpR w A1 n1 l1 A n zs h A2 n2 l2) (z1 : n1 ≤ 100000) (z2 : n2 ≤ 100000) (z3 : n ≤ 100000) : Calls Try.prog 13 #[.agg #[.slice A1 n1 c1, .int .i64 o, .slice A n c, .int .u32 h, .int .i64 m, .bool b, .slice A2 n2 c2]] w fun e w' => ∃ v, e = .returned v ∧ OwnB w' w.heap.size v (upB l1 l2 o zs h m b).length (upB l1 l2 o zs h m b) ∧ Below w.heap.size w w' := by
  have hB := (Below.refl w.heap.size w).alloc (Nat.le_refl _) (.cells #[.slice A1 n1 c1, .int .i64 o, .slice A n c, .int .u32 h, .int .i64 m, .bool b, .slice A2 n2 c2] 33)
  have hp := Blk.new w 33 #[.slice A1 n1 c1, .int .i64 o, .slice A n c, .int .u32 h, .int .i64 m, .bool b, .slice A2 n2 c2]
  have hlen : (bodyB l1 l2 o zs h m b).length ≤ 100000000 := by
    have hal := attU_le l2 o zs h m b
    have hp1 := pfAll_len l1
    have hp2 := pfAll_len l2
    have := u.s1.1
    have := u.s2.1
    unfold bodyB
    rw [List.length_append, List.length_append, cntB_len, cntB_len]
    omega
  go_enter Try.func13, Try.ntmps13
  go_upto_region 1 with (fail)
  generalize w.alloc (.cells #[.slice A1 n1 c1, .int .i64 o, .slice A n c, .int .u32 h, .int .i64 m, .bool b, .slice A2 n2 c2] 33) = w1 at *
  have hz := hB.size
  have u1 := u.nx hB
  have hgd := refUpGood_any w1 A1 n1 c1 l1 o A n c zs h m b A2 n2 c2 l2 u1 (by omega) (by omega) z3
  have q0 : w1.cell? ⟨w.heap.size, 0, none⟩ = some (.slice A1 n1 c1) := hp.cellv 0 rfl
  have q1 : w1.cell? ⟨w.heap.size, 1, none⟩ = some (.int .i64 o) := hp.cellv 1 rfl
  have q2 : w1.cell? ⟨w.heap.size, 2, none⟩ = some (.slice A n c) := hp.cellv 2 rfl
  have q3 : w1.cell? ⟨w.heap.size, 3, none⟩ = some (.int .u32 h) := hp.cellv 3 rfl
  have q4 : w1.cell? ⟨w.heap.size, 4, none⟩ = some (.int .i64 m) := hp.cellv 4 rfl
  have q5 : w1.cell? ⟨w.heap.size, 5, none⟩ = some (.bool b) := hp.cellv 5 rfl
  have q6 : w1.cell? ⟨w.heap.size, 6, none⟩ = some (.slice A2 n2 c2) := hp.cellv 6 rfl
  have ql := hp.lt
  cases hg : goodU l1 l2 o zs h m b
  · have e := Lib.hid (show [] = upB l1 l2 o zs h m b by unfold upB; rw [if_neg (by rw [hg]; simp)])
    rw [hg] at hgd
    replace hg := Lib.hid hg
    go_wp2_with (go_at_call 11; refine hgd.mono ?_; rintro e w2 ⟨rfl, hb2⟩; have hp2 := hp.below hb2 hp.lt; have u2 := u1.nx hb2; clear q0 q1 q2 q3 q4 q5 q6 ql; have q0 : w2.cell? ⟨w.heap.size, 0, none⟩ = some (.slice A1 n1 c1) := hp2.cellv 0 rfl; have q1 : w2.cell? ⟨w.heap.size, 1, none⟩ = some (.int .i64 o) := hp2.cellv 1 rfl; have q2 : w2.cell? ⟨w.heap.size, 2, none⟩ = some (.slice A n c) := hp2.cellv 2 rfl; have q3 : w2.cell? ⟨w.heap.size, 3, none⟩ = some (.int .u32 h) := hp2.cellv 3 rfl; have q4 : w2.cell? ⟨w.heap.size, 4, none⟩ = some (.int .i64 m) := hp2.cellv 4 rfl; have q5 : w2.cell? ⟨w.heap.size, 5, none⟩ = some (.bool b) := hp2.cellv 5 rfl; have q6 : w2.cell? ⟨w.heap.size, 6, none⟩ = some (.slice A2 n2 c2) := hp2.cellv 6 rfl; have ql := hp2.lt)
    go_ret
    exact ⟨_, rfl, by rw [← e.out]; exact OwnB.nil _ _, hB.trans (hb2.mono hz)⟩
  by_cases hk : (bodyB l1 l2 o zs h m b).length ≤ 4077
  · have e := Lib.hid (show bodyB l1 l2 o zs h m b = upB l1 l2 o zs h m b by unfold upB; rw [if_pos ⟨hg, hk⟩])
    rw [hg] at hgd
    replace hg := Lib.hid hg
    have hki : ((bodyB l1 l2 o zs h m b).length : Int) ≤ 4077 := by omega
    have tok := True.intro
    go_wp2_with (first
      | (go_at_call 11; refine hgd.mono ?_; rintro e w2 ⟨rfl, hb2⟩; have hp2 := hp.below hb2 hp.lt; have u2 := u1.nx hb2; clear q0 q1 q2 q3 q4 q5 q6 ql; have q0 : w2.cell? ⟨w.heap.size, 0, none⟩ = some (.slice A1 n1 c1) := hp2.cellv 0 rfl; have q1 : w2.cell? ⟨w.heap.size, 1, none⟩ = some (.int .i64 o) := hp2.cellv 1 rfl; have q2 : w2.cell? ⟨w.heap.size, 2, none⟩ = some (.slice A n c) := hp2.cellv 2 rfl; have q3 : w2.cell? ⟨w.heap.size, 3, none⟩ = some (.int .u32 h) := hp2.cellv 3 rfl; have q4 : w2.cell? ⟨w.heap.size, 4, none⟩ = some (.int .i64 m) := hp2.cellv 4 rfl; have q5 : w2.cell? ⟨w.heap.size, 5, none⟩ = some (.bool b) := hp2.cellv 5 rfl; have q6 : w2.cell? ⟨w.heap.size, 6, none⟩ = some (.slice A2 n2 c2) := hp2.cellv 6 rfl; have ql := hp2.lt)
      | (go_at_call 32; have tok9 := tok; refine (refUpBody_any w2 A1 n1 c1 l1 o A n c zs h m b A2 n2 c2 l2 u2 z1 z2 z3).mono ?_; rintro e w3 ⟨v3, rfl, own3, hb3⟩; obtain ⟨A3, c3, rfl, hc3, hcm3, by3, hA3⟩ := own3.any2; have hB3 := hB.trans ((hb2.trans (hb3.mono hb2.size)).mono hz); have tok2 := tok; clear tok; have hp3 := hp2.below hb3 hp2.lt; have u3 := u2.nx hb3; clear q0 q1 q2 q3 q4 q5 q6 ql; have q0 : w3.cell? ⟨w.heap.size, 0, none⟩ = some (.slice A1 n1 c1) := hp3.cellv 0 rfl; have q1 : w3.cell? ⟨w.heap.size, 1, none⟩ = some (.int .i64 o) := hp3.cellv 1 rfl; have q2 : w3.cell? ⟨w.heap.size, 2, none⟩ = some (.slice A n c) := hp3.cellv 2 rfl; have q3 : w3.cell? ⟨w.heap.size, 3, none⟩ = some (.int .u32 h) := hp3.cellv 3 rfl; have q4 : w3.cell? ⟨w.heap.size, 4, none⟩ = some (.int .i64 m) := hp3.cellv 4 rfl; have q5 : w3.cell? ⟨w.heap.size, 5, none⟩ = some (.bool b) := hp3.cellv 5 rfl; have q6 : w3.cell? ⟨w.heap.size, 6, none⟩ = some (.slice A2 n2 c2) := hp3.cellv 6 rfl; have ql := hp3.lt)
      | (go_at_call 32; refine (refUpBody_any w3 A1 n1 c1 l1 o A n c zs h m b A2 n2 c2 l2 u3 z1 z2 z3).mono ?_; rintro e w4 ⟨v4, rfl, own4, hb4⟩))
    go_ret
    exact ⟨_, rfl, by rw [← e.out]; exact own4.less (Nat.le_trans (Nat.le_trans hz hb2.size) hb3.size), hB3.trans (hb4.mono hB3.size)⟩
  · have e := Lib.hid (show [] = upB l1 l2 o zs h m b by unfold upB; rw [if_neg (fun q => hk q.2)])
    rw [hg] at hgd
    replace hg := Lib.hid hg
    have hki : (4077 : Int) < (bodyB l1 l2 o zs h m b).length := by omega
    go_wp2_with (first
      | (go_at_call 11; refine hgd.mono ?_; rintro e w2 ⟨rfl, hb2⟩; have hp2 := hp.below hb2 hp.lt; have u2 := u1.nx hb2; clear q0 q1 q2 q3 q4 q5 q6 ql; have q0 : w2.cell? ⟨w.heap.size, 0, none⟩ = some (.slice A1 n1 c1) := hp2.cellv 0 rfl; have q1 : w2.cell? ⟨w.heap.size, 1, none⟩ = some (.int .i64 o) := hp2.cellv 1 rfl; have q2 : w2.cell? ⟨w.heap.size, 2, none⟩ = some (.slice A n c) := hp2.cellv 2 rfl; have q3 : w2.cell? ⟨w.heap.size, 3, none⟩ = some (.int .u32 h) := hp2.cellv 3 rfl; have q4 : w2.cell? ⟨w.heap.size, 4, none⟩ = some (.int .i64 m) := hp2.cellv 4 rfl; have q5 : w2.cell? ⟨w.heap.size, 5, none⟩ = some (.bool b) := hp2.cellv 5 rfl; have q6 : w2.cell? ⟨w.heap.size, 6, none⟩ = some (.slice A2 n2 c2) := hp2.cellv 6 rfl; have ql := hp2.lt)
      | (go_at_call 32; refine (refUpBody_any w2 A1 n1 c1 l1 o A n c zs h m b A2 n2 c2 l2 u2 z1 z2 z3).mono ?_; rintro e w3 ⟨v3, rfl, own3, hb3⟩; obtain ⟨A3, c3, rfl, hc3, hcm3, by3, hA3⟩ := own3.any2; have hB3 := hB.trans ((hb2.trans (hb3.mono hb2.size)).mono hz)))
    go_ret
    exact ⟨_, rfl, by rw [← e.out]; exact OwnB.nil _ _, hB3⟩
end Go.Proofs.Ytfnclmacodchfaa
