/- update: the document's body. -/
import Derived.Test.YtfnclmacodchfaaPfQ
namespace Go.Proofs.Ytfnclmacodchfaa
set_option linter.unusedVariables false
open Go Go.RowKit

set_option maxRecDepth 100000 in
set_option maxHeartbeats 8000000 in
theorem refUpBody_any (w : World) (A1 : Option Addr) (n1 c1 : Nat) (l1 : List (Int × Int)) (o : Int) (A : Option Addr) (n c : Nat) (zs : List Int) (h m : Int) (b : Bool) (A2 : Option Addr) (n2 c2 : Nat) (l2 : List (Int × Int)) (u : UpR w A1 n1 l1 A n zs h A2 n2 l2) (z1 : n1 ≤ 100000) (z2 : n2 ≤ 100000) (z3 : n ≤ 100000) :
    Calls Try.prog 32 #[.agg #[.slice A1 n1 c1, .int .i64 o, .slice A n c, .int .u32 h, .int .i64 m, .bool b, .slice A2 n2 c2]] w fun e w' => ∃ v, e = .returned v ∧ OwnB w' w.heap.size v (bodyB l1 l2 o zs h m b).length (bodyB l1 l2 o zs h m b) ∧ Below w.heap.size w w' := by
  have hB := (Below.refl w.heap.size w).alloc (Nat.le_refl _) (.cells #[.slice A1 n1 c1, .int .i64 o, .slice A n c, .int .u32 h, .int .i64 m, .bool b, .slice A2 n2 c2] 33)
  have hp := Blk.new w 33 #[.slice A1 n1 c1, .int .i64 o, .slice A n c, .int .u32 h, .int .i64 m, .bool b, .slice A2 n2 c2]
  have hl2 := Lib.hid u.s2.1
  have hl1 := Lib.hid u.s1.1
  have hbod := Lib.hid (show bodyB l1 l2 o zs h m b = (be (((pfAll l1).length : Int) % 18446744073709551616) 2 ++ pfAll l1 ++ be (((attU l2 o zs h m b).length : Int) % 18446744073709551616) 2 ++ attU l2 o zs h m b) ++ pfAll l2 by unfold bodyB cntB; simp only [List.append_assoc])
  have hlen := Lib.hid (show (bodyB l1 l2 o zs h m b).length = 0 + 2 + (pfAll l1).length + 2 + (attU l2 o zs h m b).length + (pfAll l2).length by unfold bodyB; rw [List.length_append, List.length_append, cntB_len, cntB_len]; omega)
  have hal := attU_le l2 o zs h m b
  have hp1 := pfAll_len l1
  have hp2 := pfAll_len l2
  rw [hl1.out] at hp1
  rw [hl2.out] at hp2
  go_enter Try.func32, Try.ntmps32
  go_upto_region 1 with (fail)
  generalize w.alloc (.cells #[.slice A1 n1 c1, .int .i64 o, .slice A n c, .int .u32 h, .int .i64 m, .bool b, .slice A2 n2 c2] 33) = w1 at *
  have hz := hB.size
  have u1 := u.nx hB
  have q0 : w1.cell? ⟨w.heap.size, 0, none⟩ = some (.slice A1 n1 c1) := hp.cellv 0 rfl
  have q1 : w1.cell? ⟨w.heap.size, 1, none⟩ = some (.int .i64 o) := hp.cellv 1 rfl
  have q2 : w1.cell? ⟨w.heap.size, 2, none⟩ = some (.slice A n c) := hp.cellv 2 rfl
  have q3 : w1.cell? ⟨w.heap.size, 3, none⟩ = some (.int .u32 h) := hp.cellv 3 rfl
  have q4 : w1.cell? ⟨w.heap.size, 4, none⟩ = some (.int .i64 m) := hp.cellv 4 rfl
  have q5 : w1.cell? ⟨w.heap.size, 5, none⟩ = some (.bool b) := hp.cellv 5 rfl
  have q6 : w1.cell? ⟨w.heap.size, 6, none⟩ = some (.slice A2 n2 c2) := hp.cellv 6 rfl
  have ql := hp.lt
  go_upto_region 3 with (go_at_call 22; refine (refAll3_any w1 A1 n1 c1 l1 u1.s1 (by omega)).mono ?_; rintro e w2 ⟨v2, rfl, own2, hb2⟩; obtain ⟨A3, c3, rfl, hc3, hcm3, by3, hA3⟩ := own2.any2)
  have hp2' := hp.below hb2 hp.lt
  have hB2 := hB.trans (hb2.mono hz)
  have hz2 := hB2.size
  have u2 := u1.nx hb2
  clear q0 q1 q2 q3 q4 q5 q6 ql
  have q0 : w2.cell? ⟨w.heap.size, 0, none⟩ = some (.slice A1 n1 c1) := hp2'.cellv 0 rfl
  have q1 : w2.cell? ⟨w.heap.size, 1, none⟩ = some (.int .i64 o) := hp2'.cellv 1 rfl
  have q2 : w2.cell? ⟨w.heap.size, 2, none⟩ = some (.slice A n c) := hp2'.cellv 2 rfl
  have q3 : w2.cell? ⟨w.heap.size, 3, none⟩ = some (.int .u32 h) := hp2'.cellv 3 rfl
  have q4 : w2.cell? ⟨w.heap.size, 4, none⟩ = some (.int .i64 m) := hp2'.cellv 4 rfl
  have q5 : w2.cell? ⟨w.heap.size, 5, none⟩ = some (.bool b) := hp2'.cellv 5 rfl
  have q6 : w2.cell? ⟨w.heap.size, 6, none⟩ = some (.slice A2 n2 c2) := hp2'.cellv 6 rfl
  have ql := hp2'.lt
  by_cases h0 : n2 = 0
  · have hatt := Lib.hid (show attU l2 o zs h m b = [] by unfold attU; rw [if_pos (by rw [hl2.out]; exact h0)])
    have d0 : ¬ (0 < n2) := by omega
    have d1 : ¬ ((0 : Int) < n2) := by omega
    replace h0 := Lib.hid h0
    go_upto_region 5 with (fail)
    have by7 : Byt w2 w2.heap.size none 0 [] := Byt.none_
    have k1 : IntKind.u64.wrap ((pfAll l1).length : Int) = ((pfAll l1).length : Int) % 18446744073709551616 := IntKind.wrap_u64 _
    have k2 : IntKind.u64.wrap (0 : Int) = (0 : Int) % 18446744073709551616 := IntKind.wrap_u64 _
    have hzw := hB2.size
    go_upto_region 6 with (first
      | (go_at_call 71; refine (refPut2v w2 none 0 0 [] 0 Byt.none_ (by omega) (by omega) _).mono ?_; rintro e w4 ⟨v4, rfl, own4, hb4⟩; have by3 := by3.nx hb4; have hz4 := hb4.size)
      | (at_builtin; refine wpList_app _ rfl (.tmp 19) (.tmp 20) rfl w2.heap.size _ _ _ rfl own4 _ _ _ _ _ rfl by3 (by omega) hz4 ?_; intro v5 w5 own5 hg5 hd5; clear hd5; have hb5 := own4.below_app hg5 hz4))
    have hx5 := hb4.trans hb5
    have hz5 := hx5.size
    have by7 := (by7.below hx5).more hz5
    obtain ⟨A5, c5, rfl, hc5, hcm5, by5, hA5⟩ := own5.any2
    have hput := refPut2v w5 A5 _ c5 _ _ by5 (Nat.le_refl _) (by omega) (0 : Int)
    rw [show (0 : Int) % 18446744073709551616 = 0 from rfl] at hput
    go_upto_region 7 with (first
      | (go_at_call 71; refine hput.mono ?_; rintro e w6 ⟨v6, rfl, own6, hb6⟩; have by7 := by7.nx hb6; have hz6 := hb6.size)
      | (at_builtin; refine wpList_app _ rfl (.tmp 26) (.tmp 27) rfl w5.heap.size _ _ _ rfl own6 _ _ _ _ _ rfl by7 (by omega) hz6 ?_; intro v7 w7 own7 hg7 hd7; clear hd7; have hb7 := own6.below_app hg7 hz6))
    have hx7 := hx5.trans ((hb6.trans hb7).mono hz5)
    have hz7 := hx7.size
    have u7 := u2.nx hx7
    have hp7 := hp2'.below hx7 hp2'.lt
    clear q0 q1 q2 q3 q4 q5 q6 ql
    have q0 : w7.cell? ⟨w.heap.size, 0, none⟩ = some (.slice A1 n1 c1) := hp7.cellv 0 rfl
    have q1 : w7.cell? ⟨w.heap.size, 1, none⟩ = some (.int .i64 o) := hp7.cellv 1 rfl
    have q2 : w7.cell? ⟨w.heap.size, 2, none⟩ = some (.slice A n c) := hp7.cellv 2 rfl
    have q3 : w7.cell? ⟨w.heap.size, 3, none⟩ = some (.int .u32 h) := hp7.cellv 3 rfl
    have q4 : w7.cell? ⟨w.heap.size, 4, none⟩ = some (.int .i64 m) := hp7.cellv 4 rfl
    have q5 : w7.cell? ⟨w.heap.size, 5, none⟩ = some (.bool b) := hp7.cellv 5 rfl
    have q6 : w7.cell? ⟨w.heap.size, 6, none⟩ = some (.slice A2 n2 c2) := hp7.cellv 6 rfl
    have ql := hp7.lt
    go_wp2_with (first
      | (go_at_call 22; refine (refAll3_any w7 A2 n2 c2 l2 u7.s2 (by omega)).mono ?_; rintro e w8 ⟨v8, rfl, own8, hb8⟩; obtain ⟨A8, c8, rfl, hc8, hcm8, by8, hA8⟩ := own8.any2; have own7 := own7.below hb8; have hz8 := hb8.size)
      | (at_builtin; refine wpList_app _ rfl (.tmp 29) (.tmp 32) rfl w5.heap.size _ _ _ rfl own7 _ _ _ _ _ rfl by8 (by omega) (Nat.le_trans (hb6.trans hb7).size hz8) ?_; intro v9 w9 own9 hg9 hd9; clear hd9; have hb9 := own7.below_app hg9 (Nat.le_trans (hb6.trans hb7).size hz8)))
    go_ret
    have hx8 := hx7.trans (hb8.mono hz7)
    refine ⟨_, rfl, ?_, hB2.trans ((hx5.trans ((((hb6.trans hb7).trans (hb8.mono (hb6.trans hb7).size)).trans hb9).mono hz5)).mono hzw)⟩
    rw [hlen.out, hbod.out, hatt.out]
    rw [show ((([] : List UInt8).length : Int) % 18446744073709551616) = 0 from rfl]
    exact own9.less (Nat.le_trans hzw hz5)
  · have hatt := Lib.hid (show attU l2 o zs h m b = attrsB o zs h m b by unfold attU; rw [if_neg (by rw [hl2.out]; exact h0)])
    have d0 : 0 < n2 := by omega
    have d1 : (0 : Int) < n2 := by omega
    have hab := attrsB_le o zs h m b
    go_upto_region 5 with (go_at_call 70; refine (refBytes7_any w2 o A n c zs h m b u2.pa u2.h0 u2.h1 z3).mono ?_; rintro e w3 ⟨v3, rfl, own3, hb3⟩; obtain ⟨A7, c7, rfl, hc7, hcm7, by7, hA7⟩ := own3.any2)
    have by3 := by3.nx hb3
    have hp3 := hp2'.below hb3 hp2'.lt
    have hB3 := hB2.trans (hb3.mono hz2)
    have u3 := u2.nx hb3
    clear q0 q1 q2 q3 q4 q5 q6 ql
    have q0 : w3.cell? ⟨w.heap.size, 0, none⟩ = some (.slice A1 n1 c1) := hp3.cellv 0 rfl
    have q1 : w3.cell? ⟨w.heap.size, 1, none⟩ = some (.int .i64 o) := hp3.cellv 1 rfl
    have q2 : w3.cell? ⟨w.heap.size, 2, none⟩ = some (.slice A n c) := hp3.cellv 2 rfl
    have q3 : w3.cell? ⟨w.heap.size, 3, none⟩ = some (.int .u32 h) := hp3.cellv 3 rfl
    have q4 : w3.cell? ⟨w.heap.size, 4, none⟩ = some (.int .i64 m) := hp3.cellv 4 rfl
    have q5 : w3.cell? ⟨w.heap.size, 5, none⟩ = some (.bool b) := hp3.cellv 5 rfl
    have q6 : w3.cell? ⟨w.heap.size, 6, none⟩ = some (.slice A2 n2 c2) := hp3.cellv 6 rfl
    have ql := hp3.lt
    have k1 : IntKind.u64.wrap ((pfAll l1).length : Int) = ((pfAll l1).length : Int) % 18446744073709551616 := IntKind.wrap_u64 _
    have k2 : IntKind.u64.wrap ((attrsB o zs h m b).length : Int) = ((attrsB o zs h m b).length : Int) % 18446744073709551616 := IntKind.wrap_u64 _
    have hzw := hB3.size
    go_upto_region 6 with (first
      | (go_at_call 71; refine (refPut2v w3 none 0 0 [] 0 Byt.none_ (by omega) (by omega) _).mono ?_; rintro e w4 ⟨v4, rfl, own4, hb4⟩; have by3 := by3.nx hb4; have hz4 := hb4.size)
      | (at_builtin; refine wpList_app _ rfl (.tmp 19) (.tmp 20) rfl w3.heap.size _ _ _ rfl own4 _ _ _ _ _ rfl by3 (by omega) hz4 ?_; intro v5 w5 own5 hg5 hd5; clear hd5; have hb5 := own4.below_app hg5 hz4))
    have hx5 := hb4.trans hb5
    have hz5 := hx5.size
    have by7 := (by7.below hx5).more hz5
    obtain ⟨A5, c5, rfl, hc5, hcm5, by5, hA5⟩ := own5.any2
    have hput := refPut2v w5 A5 _ c5 _ _ by5 (Nat.le_refl _) (by omega) ((attrsB o zs h m b).length : Int)
    skip
    go_upto_region 7 with (first
      | (go_at_call 71; refine hput.mono ?_; rintro e w6 ⟨v6, rfl, own6, hb6⟩; have by7 := by7.nx hb6; have hz6 := hb6.size)
      | (at_builtin; refine wpList_app _ rfl (.tmp 26) (.tmp 27) rfl w5.heap.size _ _ _ rfl own6 _ _ _ _ _ rfl by7 (by omega) hz6 ?_; intro v7 w7 own7 hg7 hd7; clear hd7; have hb7 := own6.below_app hg7 hz6))
    have hx7 := hx5.trans ((hb6.trans hb7).mono hz5)
    have hz7 := hx7.size
    have u7 := u3.nx hx7
    have hp7 := hp3.below hx7 hp3.lt
    clear q0 q1 q2 q3 q4 q5 q6 ql
    have q0 : w7.cell? ⟨w.heap.size, 0, none⟩ = some (.slice A1 n1 c1) := hp7.cellv 0 rfl
    have q1 : w7.cell? ⟨w.heap.size, 1, none⟩ = some (.int .i64 o) := hp7.cellv 1 rfl
    have q2 : w7.cell? ⟨w.heap.size, 2, none⟩ = some (.slice A n c) := hp7.cellv 2 rfl
    have q3 : w7.cell? ⟨w.heap.size, 3, none⟩ = some (.int .u32 h) := hp7.cellv 3 rfl
    have q4 : w7.cell? ⟨w.heap.size, 4, none⟩ = some (.int .i64 m) := hp7.cellv 4 rfl
    have q5 : w7.cell? ⟨w.heap.size, 5, none⟩ = some (.bool b) := hp7.cellv 5 rfl
    have q6 : w7.cell? ⟨w.heap.size, 6, none⟩ = some (.slice A2 n2 c2) := hp7.cellv 6 rfl
    have ql := hp7.lt
    go_wp2_with (first
      | (go_at_call 22; refine (refAll3_any w7 A2 n2 c2 l2 u7.s2 (by omega)).mono ?_; rintro e w8 ⟨v8, rfl, own8, hb8⟩; obtain ⟨A8, c8, rfl, hc8, hcm8, by8, hA8⟩ := own8.any2; have own7 := own7.below hb8; have hz8 := hb8.size)
      | (at_builtin; refine wpList_app _ rfl (.tmp 29) (.tmp 32) rfl w5.heap.size _ _ _ rfl own7 _ _ _ _ _ rfl by8 (by omega) (Nat.le_trans (hb6.trans hb7).size hz8) ?_; intro v9 w9 own9 hg9 hd9; clear hd9; have hb9 := own7.below_app hg9 (Nat.le_trans (hb6.trans hb7).size hz8)))
    go_ret
    have hx8 := hx7.trans (hb8.mono hz7)
    refine ⟨_, rfl, ?_, hB3.trans ((hx5.trans ((((hb6.trans hb7).trans (hb8.mono (hb6.trans hb7).size)).trans hb9).mono hz5)).mono hzw)⟩
    rw [hlen.out, hbod.out, hatt.out]
    skip
    exact own9.less (Nat.le_trans hzw hz5)
end Go.Proofs.Ytfnclmacodchfaa
