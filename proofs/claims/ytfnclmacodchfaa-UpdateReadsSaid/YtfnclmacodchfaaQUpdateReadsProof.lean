import Derived.Test.YtfnclmacodchfaaAtR
import Derived.Test.YtfnclmacodchfaaAtJ
import Derived.Test.YtfnclmacodchfaaLate
import Derived.BigQuiet
import Derived.Test.YtfnclmacodchfaaPfQ
import Derived.Test.YtfnclmacodchfaaPgA
import Derived.Test.YtfnclmacodchfaaPgB
import Derived.Test.YtfnclmacodchfaaRows
import Derived.Test.YtfnclmacodchfaaLib
/- attr: the document's Faults and Raws. -/
namespace Go.Proofs.Ytfnclmacodchfaa
set_option linter.unusedVariables false
open Go.RowKit

def faultC (a s : Int) (d : List UInt8) (a' s' : Int) (d' : List UInt8) : Bool := a == a' && s == s' && d == d'
set_option maxHeartbeats 2000000 in
theorem faults7_any (w : World) (a s : Int) (A : Option Addr) (n c : Nat) (d : List UInt8) (a' s' : Int) (A' : Option Addr) (n' c' : Nat) (d' : List UInt8) (B B' : Nat) (h : Byt w B A n d) (h' : Byt w B' A' n' d') (hB : B ≤ w.heap.size) (hB' : B' ≤ w.heap.size) :
    Calls Try.prog 21 #[.agg #[.int .i64 a, .int .i64 s, .slice A n c], .agg #[.int .i64 a', .int .i64 s', .slice A' n' c']] w fun e w' => e = .returned (.bool (faultC a s d a' s' d')) ∧ Below w.heap.size w w' := by
  have hb := ((Below.refl w.heap.size w).alloc (Nat.le_refl _) (.cells #[.int .i64 a, .int .i64 s, .slice A n c] 44)).alloc (by simp) (.cells #[.int .i64 a', .int .i64 s', .slice A' n' c'] 44)
  have q1 := run_str _ ((h.more hB).below hb) c
  have q2 := run_str _ ((h'.more hB').below hb) c'
  go_enter Try.func21, Try.ntmps21
  by_cases ea : a = a'
  rotate_left
  · have b1 : (a == a') = false := by simpa using ea
    have f : faultC a s d a' s' d' = false := by unfold faultC; rw [b1]; rfl
    replace f := Lib.hid f
    go_wp2_with fail
    go_ret
    exact ⟨ret_bool f.out.symm, hb⟩
  have b1 : (a == a') = true := by simpa using ea
  replace ea := Lib.hid ea
  by_cases es : s = s'
  rotate_left
  · have b2 : (s == s') = false := by simpa using es
    have f : faultC a s d a' s' d' = false := by unfold faultC; rw [b2]; simp
    replace f := Lib.hid f
    go_wp2_with fail
    go_ret
    exact ⟨ret_bool f.out.symm, hb⟩
  have b2 : (s == s') = true := by simpa using es
  have f : faultC a s d a' s' d' = ((strB d).toList == (strB d').toList) := by unfold faultC; rw [b1, b2, strB_list, strB_list]; rfl
  replace es := Lib.hid es
  replace f := Lib.hid f
  go_wp2_with fail
  go_ret
  exact ⟨ret_bool f.out.symm, hb⟩

theorem raw_up {w w' : World} {A : Option Addr} {n : Nat} {rs : List RawV} (h : Seen rawK w (fun b => b < w.heap.size) A n rs) (hb : Below w.heap.size w w') : Seen rawK w' (fun b => b < w'.heap.size) A n rs :=
  (Seen.below h hb fun _ h => h).more fun b h => Nat.lt_of_lt_of_le h hb.size
def sameR (r q : RawV) : Bool := r.f == q.f && r.t == q.t && r.v == q.v
theorem sameR_iff (r q : RawV) : sameR r q = true ↔ dat r = dat q := by
  unfold sameR dat; simp [and_assoc]
def rawsEq (cs ds : List RawV) : Bool := decide (cs.map dat = ds.map dat)
theorem raws_no {cs ds : List RawV} {k : Nat} {r q : RawV} (hr : cs[k]? = some r) (hq : ds[k]? = some q) (h : sameR r q = false) : rawsEq cs ds = false := by
  unfold rawsEq
  simp only [decide_eq_false_iff_not]
  intro e
  have h1 : (cs.map dat)[k]? = some (dat r) := by rw [List.getElem?_map, hr]; rfl
  have h2 : (ds.map dat)[k]? = some (dat q) := by rw [List.getElem?_map, hq]; rfl
  rw [e, h2] at h1
  injection h1 with h1
  have := (sameR_iff r q).2 h1.symm
  rw [h] at this
  cases this
theorem raws_next {cs ds : List RawV} {k : Nat} {r q : RawV} (hr : cs[k]? = some r) (hq : ds[k]? = some q) (hk : rawsEq (cs.take k) (ds.take k) = true) (h : sameR r q = true) : rawsEq (cs.take (k + 1)) (ds.take (k + 1)) = true := by
  unfold rawsEq at hk ⊢
  rw [decide_eq_true_eq] at hk ⊢
  rw [List.take_add_one, List.take_add_one, hr, hq, List.map_append, List.map_append, hk]
  have := (sameR_iff r q).1 h
  simp [this]
theorem raws_len {cs ds : List RawV} (h : cs.length ≠ ds.length) : rawsEq cs ds = false := by
  unfold rawsEq
  simp only [decide_eq_false_iff_not]
  intro e
  have := congrArg List.length e
  simp at this
  exact h this
end Go.Proofs.Ytfnclmacodchfaa

/- update: the document's body. -/
namespace Go.Proofs.Ytfnclmacodchfaa
set_option linter.unusedVariables false
open Go Go.RowKit

set_option maxRecDepth 100000 in
set_option maxHeartbeats 8000000 in
theorem refUpBody_any (w : World) (A1 : Option Addr) (n1 c1 : Nat) (l1 : List (Int × Int)) (o : Int) (A : Option Addr) (n c : Nat) (zs : List Int) (h m : Int) (b : Bool) (A2 : Option Addr) (n2 c2 : Nat) (l2 : List (Int × Int)) (u : UpR w A1 n1 l1 A n zs h A2 n2 l2) (z1 : n1 ≤ 100000) (z2 : n2 ≤ 100000) (z3 : n ≤ 100000) :
    Calls Try.prog 32 #[.agg #[.slice A1 n1 c1, .int .i64 o, .slice A n c, .int .u32 h, .int .i64 m, .bool b, .slice A2 n2 c2]] w fun e w' => ∃ v, e = .returned v ∧ OwnB w' w.heap.size v (bodyB l1 l2 o zs h m b).length (bodyB l1 l2 o zs h m b) ∧ Below w.heap.size w w' := by
  have hB := (Below.refl w.heap.size w).alloc (Nat.le_refl _) (.cells #[.slice A1 n1 c1, .int .i64 o, .slice A n c, .int .u32 h, .int .i64 m, .bool b, .slice A2 n2 c2] 33)
  have hp := Blk.new w 33 #[.slice A1 n1 c1, .int .i64 o, .slice A n c, .int .u32 h, .int .i64 m, .bool b, .slice A2 n2 c2]
  have hl2 := Lib.hid u.s2.1
  have hl1 := Lib.hid u.s1.1
  have hbod := Lib.hid (show bodyB l1 l2 o zs h m b = (be (((pfAll l1).length : Int) % 18446744073709551616) 2 ++ pfAll l1 ++ be (((attU l2 o zs h m b).length : Int) % 18446744073709551616) 2 ++ attU l2 o zs h m b) ++ pfAll l2 by unfold bodyB cntB; simp only [List.append_assoc])
  have hlen := Lib.hid (show (bodyB l1 l2 o zs h m b).length = 0 + 2 + (pfAll l1).length + 2 + (attU l2 o zs h m b).length + (pfAll l2).length by unfold bodyB; rw [List.length_append, List.length_append, cntB_len, cntB_len]; omega)
  have hal := attU_le l2 o zs h m b
  have hp1 := pfAll_len l1
  have hp2 := pfAll_len l2
  rw [hl1.out] at hp1
  rw [hl2.out] at hp2
  go_enter Try.func32, Try.ntmps32
  go_upto_region 1 with (fail)
  generalize w.alloc (.cells #[.slice A1 n1 c1, .int .i64 o, .slice A n c, .int .u32 h, .int .i64 m, .bool b, .slice A2 n2 c2] 33) = w1 at *
  have hz := hB.size
  have u1 := u.nx hB
  have q0 : w1.cell? ⟨w.heap.size, 0, none⟩ = some (.slice A1 n1 c1) := hp.cellv 0 rfl
  have q1 : w1.cell? ⟨w.heap.size, 1, none⟩ = some (.int .i64 o) := hp.cellv 1 rfl
  have q2 : w1.cell? ⟨w.heap.size, 2, none⟩ = some (.slice A n c) := hp.cellv 2 rfl
  have q3 : w1.cell? ⟨w.heap.size, 3, none⟩ = some (.int .u32 h) := hp.cellv 3 rfl
  have q4 : w1.cell? ⟨w.heap.size, 4, none⟩ = some (.int .i64 m) := hp.cellv 4 rfl
  have q5 : w1.cell? ⟨w.heap.size, 5, none⟩ = some (.bool b) := hp.cellv 5 rfl
  have q6 : w1.cell? ⟨w.heap.size, 6, none⟩ = some (.slice A2 n2 c2) := hp.cellv 6 rfl
  have ql := hp.lt
  go_upto_region 3 with (go_at_call 22; refine (refAll3_any w1 A1 n1 c1 l1 u1.s1 (by omega)).mono ?_; rintro e w2 ⟨v2, rfl, own2, hb2⟩; obtain ⟨A3, c3, rfl, hc3, hcm3, by3, hA3⟩ := own2.any2)
  have hp2' := hp.below hb2 hp.lt
  have hB2 := hB.trans (hb2.mono hz)
  have hz2 := hB2.size
  have u2 := u1.nx hb2
  clear q0 q1 q2 q3 q4 q5 q6 ql
  have q0 : w2.cell? ⟨w.heap.size, 0, none⟩ = some (.slice A1 n1 c1) := hp2'.cellv 0 rfl
  have q1 : w2.cell? ⟨w.heap.size, 1, none⟩ = some (.int .i64 o) := hp2'.cellv 1 rfl
  have q2 : w2.cell? ⟨w.heap.size, 2, none⟩ = some (.slice A n c) := hp2'.cellv 2 rfl
  have q3 : w2.cell? ⟨w.heap.size, 3, none⟩ = some (.int .u32 h) := hp2'.cellv 3 rfl
  have q4 : w2.cell? ⟨w.heap.size, 4, none⟩ = some (.int .i64 m) := hp2'.cellv 4 rfl
  have q5 : w2.cell? ⟨w.heap.size, 5, none⟩ = some (.bool b) := hp2'.cellv 5 rfl
  have q6 : w2.cell? ⟨w.heap.size, 6, none⟩ = some (.slice A2 n2 c2) := hp2'.cellv 6 rfl
  have ql := hp2'.lt
  by_cases h0 : n2 = 0
  · have hatt := Lib.hid (show attU l2 o zs h m b = [] by unfold attU; rw [if_pos (by rw [hl2.out]; exact h0)])
    have d0 : ¬ (0 < n2) := by omega
    have d1 : ¬ ((0 : Int) < n2) := by omega
    replace h0 := Lib.hid h0
    go_upto_region 5 with (fail)
    have by7 : Byt w2 w2.heap.size none 0 [] := Byt.none_
    have k1 : IntKind.u64.wrap ((pfAll l1).length : Int) = ((pfAll l1).length : Int) % 18446744073709551616 := IntKind.wrap_u64 _
    have k2 : IntKind.u64.wrap (0 : Int) = (0 : Int) % 18446744073709551616 := IntKind.wrap_u64 _
    have hzw := hB2.size
    go_upto_region 6 with (first
      | (go_at_call 71; refine (refPut2v w2 none 0 0 [] 0 Byt.none_ (by omega) (by omega) _).mono ?_; rintro e w4 ⟨v4, rfl, own4, hb4⟩; have by3 := by3.nx hb4; have hz4 := hb4.size)
      | (at_builtin; refine wpList_app _ rfl (.tmp 19) (.tmp 20) rfl w2.heap.size _ _ _ rfl own4 _ _ _ _ _ rfl by3 (by omega) hz4 ?_; intro v5 w5 own5 hg5 hd5; clear hd5; have hb5 := own4.below_app hg5 hz4))
    have hx5 := hb4.trans hb5
    have hz5 := hx5.size
    have by7 := (by7.below hx5).more hz5
    obtain ⟨A5, c5, rfl, hc5, hcm5, by5, hA5⟩ := own5.any2
    have hput := refPut2v w5 A5 _ c5 _ _ by5 (Nat.le_refl _) (by omega) (0 : Int)
    rw [show (0 : Int) % 18446744073709551616 = 0 from rfl] at hput
    go_upto_region 7 with (first
      | (go_at_call 71; refine hput.mono ?_; rintro e w6 ⟨v6, rfl, own6, hb6⟩; have by7 := by7.nx hb6; have hz6 := hb6.size)
      | (at_builtin; refine wpList_app _ rfl (.tmp 26) (.tmp 27) rfl w5.heap.size _ _ _ rfl own6 _ _ _ _ _ rfl by7 (by omega) hz6 ?_; intro v7 w7 own7 hg7 hd7; clear hd7; have hb7 := own6.below_app hg7 hz6))
    have hx7 := hx5.trans ((hb6.trans hb7).mono hz5)
    have hz7 := hx7.size
    have u7 := u2.nx hx7
    have hp7 := hp2'.below hx7 hp2'.lt
    clear q0 q1 q2 q3 q4 q5 q6 ql
    have q0 : w7.cell? ⟨w.heap.size, 0, none⟩ = some (.slice A1 n1 c1) := hp7.cellv 0 rfl
    have q1 : w7.cell? ⟨w.heap.size, 1, none⟩ = some (.int .i64 o) := hp7.cellv 1 rfl
    have q2 : w7.cell? ⟨w.heap.size, 2, none⟩ = some (.slice A n c) := hp7.cellv 2 rfl
    have q3 : w7.cell? ⟨w.heap.size, 3, none⟩ = some (.int .u32 h) := hp7.cellv 3 rfl
    have q4 : w7.cell? ⟨w.heap.size, 4, none⟩ = some (.int .i64 m) := hp7.cellv 4 rfl
    have q5 : w7.cell? ⟨w.heap.size, 5, none⟩ = some (.bool b) := hp7.cellv 5 rfl
    have q6 : w7.cell? ⟨w.heap.size, 6, none⟩ = some (.slice A2 n2 c2) := hp7.cellv 6 rfl
    have ql := hp7.lt
    go_wp2_with (first
      | (go_at_call 22; refine (refAll3_any w7 A2 n2 c2 l2 u7.s2 (by omega)).mono ?_; rintro e w8 ⟨v8, rfl, own8, hb8⟩; obtain ⟨A8, c8, rfl, hc8, hcm8, by8, hA8⟩ := own8.any2; have own7 := own7.below hb8; have hz8 := hb8.size)
      | (at_builtin; refine wpList_app _ rfl (.tmp 29) (.tmp 32) rfl w5.heap.size _ _ _ rfl own7 _ _ _ _ _ rfl by8 (by omega) (Nat.le_trans (hb6.trans hb7).size hz8) ?_; intro v9 w9 own9 hg9 hd9; clear hd9; have hb9 := own7.below_app hg9 (Nat.le_trans (hb6.trans hb7).size hz8)))
    go_ret
    have hx8 := hx7.trans (hb8.mono hz7)
    refine ⟨_, rfl, ?_, hB2.trans ((hx5.trans ((((hb6.trans hb7).trans (hb8.mono (hb6.trans hb7).size)).trans hb9).mono hz5)).mono hzw)⟩
    rw [hlen.out, hbod.out, hatt.out]
    rw [show ((([] : List UInt8).length : Int) % 18446744073709551616) = 0 from rfl]
    exact own9.less (Nat.le_trans hzw hz5)
  · have hatt := Lib.hid (show attU l2 o zs h m b = attrsB o zs h m b by unfold attU; rw [if_neg (by rw [hl2.out]; exact h0)])
    have d0 : 0 < n2 := by omega
    have d1 : (0 : Int) < n2 := by omega
    have hab := attrsB_le o zs h m b
    go_upto_region 5 with (go_at_call 70; refine (refBytes7_any w2 o A n c zs h m b u2.pa u2.h0 u2.h1 z3).mono ?_; rintro e w3 ⟨v3, rfl, own3, hb3⟩; obtain ⟨A7, c7, rfl, hc7, hcm7, by7, hA7⟩ := own3.any2)
    have by3 := by3.nx hb3
    have hp3 := hp2'.below hb3 hp2'.lt
    have hB3 := hB2.trans (hb3.mono hz2)
    have u3 := u2.nx hb3
    clear q0 q1 q2 q3 q4 q5 q6 ql
    have q0 : w3.cell? ⟨w.heap.size, 0, none⟩ = some (.slice A1 n1 c1) := hp3.cellv 0 rfl
    have q1 : w3.cell? ⟨w.heap.size, 1, none⟩ = some (.int .i64 o) := hp3.cellv 1 rfl
    have q2 : w3.cell? ⟨w.heap.size, 2, none⟩ = some (.slice A n c) := hp3.cellv 2 rfl
    have q3 : w3.cell? ⟨w.heap.size, 3, none⟩ = some (.int .u32 h) := hp3.cellv 3 rfl
    have q4 : w3.cell? ⟨w.heap.size, 4, none⟩ = some (.int .i64 m) := hp3.cellv 4 rfl
    have q5 : w3.cell? ⟨w.heap.size, 5, none⟩ = some (.bool b) := hp3.cellv 5 rfl
    have q6 : w3.cell? ⟨w.heap.size, 6, none⟩ = some (.slice A2 n2 c2) := hp3.cellv 6 rfl
    have ql := hp3.lt
    have k1 : IntKind.u64.wrap ((pfAll l1).length : Int) = ((pfAll l1).length : Int) % 18446744073709551616 := IntKind.wrap_u64 _
    have k2 : IntKind.u64.wrap ((attrsB o zs h m b).length : Int) = ((attrsB o zs h m b).length : Int) % 18446744073709551616 := IntKind.wrap_u64 _
    have hzw := hB3.size
    go_upto_region 6 with (first
      | (go_at_call 71; refine (refPut2v w3 none 0 0 [] 0 Byt.none_ (by omega) (by omega) _).mono ?_; rintro e w4 ⟨v4, rfl, own4, hb4⟩; have by3 := by3.nx hb4; have hz4 := hb4.size)
      | (at_builtin; refine wpList_app _ rfl (.tmp 19) (.tmp 20) rfl w3.heap.size _ _ _ rfl own4 _ _ _ _ _ rfl by3 (by omega) hz4 ?_; intro v5 w5 own5 hg5 hd5; clear hd5; have hb5 := own4.below_app hg5 hz4))
    have hx5 := hb4.trans hb5
    have hz5 := hx5.size
    have by7 := (by7.below hx5).more hz5
    obtain ⟨A5, c5, rfl, hc5, hcm5, by5, hA5⟩ := own5.any2
    have hput := refPut2v w5 A5 _ c5 _ _ by5 (Nat.le_refl _) (by omega) ((attrsB o zs h m b).length : Int)
    skip
    go_upto_region 7 with (first
      | (go_at_call 71; refine hput.mono ?_; rintro e w6 ⟨v6, rfl, own6, hb6⟩; have by7 := by7.nx hb6; have hz6 := hb6.size)
      | (at_builtin; refine wpList_app _ rfl (.tmp 26) (.tmp 27) rfl w5.heap.size _ _ _ rfl own6 _ _ _ _ _ rfl by7 (by omega) hz6 ?_; intro v7 w7 own7 hg7 hd7; clear hd7; have hb7 := own6.below_app hg7 hz6))
    have hx7 := hx5.trans ((hb6.trans hb7).mono hz5)
    have hz7 := hx7.size
    have u7 := u3.nx hx7
    have hp7 := hp3.below hx7 hp3.lt
    clear q0 q1 q2 q3 q4 q5 q6 ql
    have q0 : w7.cell? ⟨w.heap.size, 0, none⟩ = some (.slice A1 n1 c1) := hp7.cellv 0 rfl
    have q1 : w7.cell? ⟨w.heap.size, 1, none⟩ = some (.int .i64 o) := hp7.cellv 1 rfl
    have q2 : w7.cell? ⟨w.heap.size, 2, none⟩ = some (.slice A n c) := hp7.cellv 2 rfl
    have q3 : w7.cell? ⟨w.heap.size, 3, none⟩ = some (.int .u32 h) := hp7.cellv 3 rfl
    have q4 : w7.cell? ⟨w.heap.size, 4, none⟩ = some (.int .i64 m) := hp7.cellv 4 rfl
    have q5 : w7.cell? ⟨w.heap.size, 5, none⟩ = some (.bool b) := hp7.cellv 5 rfl
    have q6 : w7.cell? ⟨w.heap.size, 6, none⟩ = some (.slice A2 n2 c2) := hp7.cellv 6 rfl
    have ql := hp7.lt
    go_wp2_with (first
      | (go_at_call 22; refine (refAll3_any w7 A2 n2 c2 l2 u7.s2 (by omega)).mono ?_; rintro e w8 ⟨v8, rfl, own8, hb8⟩; obtain ⟨A8, c8, rfl, hc8, hcm8, by8, hA8⟩ := own8.any2; have own7 := own7.below hb8; have hz8 := hb8.size)
      | (at_builtin; refine wpList_app _ rfl (.tmp 29) (.tmp 32) rfl w5.heap.size _ _ _ rfl own7 _ _ _ _ _ rfl by8 (by omega) (Nat.le_trans (hb6.trans hb7).size hz8) ?_; intro v9 w9 own9 hg9 hd9; clear hd9; have hb9 := own7.below_app hg9 (Nat.le_trans (hb6.trans hb7).size hz8)))
    go_ret
    have hx8 := hx7.trans (hb8.mono hz7)
    refine ⟨_, rfl, ?_, hB3.trans ((hx5.trans ((((hb6.trans hb7).trans (hb8.mono (hb6.trans hb7).size)).trans hb9).mono hz5)).mono hzw)⟩
    rw [hlen.out, hbod.out, hatt.out]
    skip
    exact own9.less (Nat.le_trans hzw hz5)
end Go.Proofs.Ytfnclmacodchfaa

/- update: Size and Bytes, and the document's. -/
namespace Go.Proofs.Ytfnclmacodchfaa
set_option linter.unusedVariables false
open Go Go.RowKit

/-- a body's bytes. -/
def upB (l1 l2 : List (Int × Int)) (o : Int) (zs : List Int) (h m : Int) (b : Bool) : List UInt8 := if goodU l1 l2 o zs h m b = true ∧ (bodyB l1 l2 o zs h m b).length ≤ 4077 then bodyB l1 l2 o zs h m b else []
def upSize (l1 l2 : List (Int × Int)) (o : Int) (zs : List Int) (h m : Int) (b : Bool) : Int := if goodU l1 l2 o zs h m b = true then (bodyB l1 l2 o zs h m b).length else 0
set_option maxRecDepth 100000 in
set_option maxHeartbeats 4000000 in
theorem upSize_any (w : World) (A1 : Option Addr) (n1 c1 : Nat) (l1 : List (Int × Int)) (o : Int) (A : Option Addr) (n c : Nat) (zs : List Int) (h m : Int) (b : Bool) (A2 : Option Addr) (n2 c2 : Nat) (l2 : List (Int × Int)) (u : UpR w A1 n1 l1 A n zs h A2 n2 l2) (z1 : n1 ≤ 100000) (z2 : n2 ≤ 100000) (z3 : n ≤ 100000) : Calls Try.prog 14 #[.agg #[.slice A1 n1 c1, .int .i64 o, .slice A n c, .int .u32 h, .int .i64 m, .bool b, .slice A2 n2 c2]] w fun e w' => e = .returned (.int .i64 (upSize l1 l2 o zs h m b)) ∧ Below w.heap.size w w' := by
  have hB := (Below.refl w.heap.size w).alloc (Nat.le_refl _) (.cells #[.slice A1 n1 c1, .int .i64 o, .slice A n c, .int .u32 h, .int .i64 m, .bool b, .slice A2 n2 c2] 28)
  have hp := Blk.new w 28 #[.slice A1 n1 c1, .int .i64 o, .slice A n c, .int .u32 h, .int .i64 m, .bool b, .slice A2 n2 c2]
  have hlen : (bodyB l1 l2 o zs h m b).length ≤ 100000000 := by
    have hal := attU_le l2 o zs h m b
    have hp1 := pfAll_len l1
    have hp2 := pfAll_len l2
    have := u.s1.1
    have := u.s2.1
    unfold bodyB
    rw [List.length_append, List.length_append, cntB_len, cntB_len]
    omega
  go_enter Try.func14, Try.ntmps14
  go_upto_region 1 with (fail)
  generalize w.alloc (.cells #[.slice A1 n1 c1, .int .i64 o, .slice A n c, .int .u32 h, .int .i64 m, .bool b, .slice A2 n2 c2] 28) = w1 at *
  have hz := hB.size
  have u1 := u.nx hB
  have hgd := upGood_any w1 A1 n1 c1 l1 o A n c zs h m b A2 n2 c2 l2 u1 (by omega) (by omega) z3
  have q0 : w1.cell? ⟨w.heap.size, 0, none⟩ = some (.slice A1 n1 c1) := hp.cellv 0 rfl
  have q1 : w1.cell? ⟨w.heap.size, 1, none⟩ = some (.int .i64 o) := hp.cellv 1 rfl
  have q2 : w1.cell? ⟨w.heap.size, 2, none⟩ = some (.slice A n c) := hp.cellv 2 rfl
  have q3 : w1.cell? ⟨w.heap.size, 3, none⟩ = some (.int .u32 h) := hp.cellv 3 rfl
  have q4 : w1.cell? ⟨w.heap.size, 4, none⟩ = some (.int .i64 m) := hp.cellv 4 rfl
  have q5 : w1.cell? ⟨w.heap.size, 5, none⟩ = some (.bool b) := hp.cellv 5 rfl
  have q6 : w1.cell? ⟨w.heap.size, 6, none⟩ = some (.slice A2 n2 c2) := hp.cellv 6 rfl
  have ql := hp.lt
  cases hg : goodU l1 l2 o zs h m b
  · have e := Lib.hid (show (0 : Int) = upSize l1 l2 o zs h m b by unfold upSize; rw [hg]; rfl)
    rw [hg] at hgd
    replace hg := Lib.hid hg
    go_wp2_with (go_at_call 10; refine hgd.mono ?_; rintro e w2 ⟨rfl, hb2⟩; have hp2 := hp.below hb2 hp.lt; have u2 := u1.nx hb2; clear q0 q1 q2 q3 q4 q5 q6 ql; have q0 : w2.cell? ⟨w.heap.size, 0, none⟩ = some (.slice A1 n1 c1) := hp2.cellv 0 rfl; have q1 : w2.cell? ⟨w.heap.size, 1, none⟩ = some (.int .i64 o) := hp2.cellv 1 rfl; have q2 : w2.cell? ⟨w.heap.size, 2, none⟩ = some (.slice A n c) := hp2.cellv 2 rfl; have q3 : w2.cell? ⟨w.heap.size, 3, none⟩ = some (.int .u32 h) := hp2.cellv 3 rfl; have q4 : w2.cell? ⟨w.heap.size, 4, none⟩ = some (.int .i64 m) := hp2.cellv 4 rfl; have q5 : w2.cell? ⟨w.heap.size, 5, none⟩ = some (.bool b) := hp2.cellv 5 rfl; have q6 : w2.cell? ⟨w.heap.size, 6, none⟩ = some (.slice A2 n2 c2) := hp2.cellv 6 rfl; have ql := hp2.lt)
    go_ret
    exact ⟨ret_int e.out, hB.trans (hb2.mono hz)⟩
  · have e := Lib.hid (show ((bodyB l1 l2 o zs h m b).length : Int) = upSize l1 l2 o zs h m b by unfold upSize; rw [hg]; rfl)
    rw [hg] at hgd
    replace hg := Lib.hid hg
    go_wp2_with (first
      | (go_at_call 10; refine hgd.mono ?_; rintro e w2 ⟨rfl, hb2⟩; have hp2 := hp.below hb2 hp.lt; have u2 := u1.nx hb2; clear q0 q1 q2 q3 q4 q5 q6 ql; have q0 : w2.cell? ⟨w.heap.size, 0, none⟩ = some (.slice A1 n1 c1) := hp2.cellv 0 rfl; have q1 : w2.cell? ⟨w.heap.size, 1, none⟩ = some (.int .i64 o) := hp2.cellv 1 rfl; have q2 : w2.cell? ⟨w.heap.size, 2, none⟩ = some (.slice A n c) := hp2.cellv 2 rfl; have q3 : w2.cell? ⟨w.heap.size, 3, none⟩ = some (.int .u32 h) := hp2.cellv 3 rfl; have q4 : w2.cell? ⟨w.heap.size, 4, none⟩ = some (.int .i64 m) := hp2.cellv 4 rfl; have q5 : w2.cell? ⟨w.heap.size, 5, none⟩ = some (.bool b) := hp2.cellv 5 rfl; have q6 : w2.cell? ⟨w.heap.size, 6, none⟩ = some (.slice A2 n2 c2) := hp2.cellv 6 rfl; have ql := hp2.lt)
      | (go_at_call 31; refine (upBody_any w2 A1 n1 c1 l1 o A n c zs h m b A2 n2 c2 l2 u2 z1 z2 z3).mono ?_; rintro e w3 ⟨v3, rfl, own3, hb3⟩; obtain ⟨A3, c3, rfl, hc3, hcm3, by3, hA3⟩ := own3.any2; have hB3 := hB.trans ((hb2.trans (hb3.mono hb2.size)).mono hz)))
    go_ret
    exact ⟨ret_int e.out, hB3⟩
set_option maxRecDepth 100000 in
set_option maxHeartbeats 4000000 in
theorem upBytes_any (w : World) (A1 : Option Addr) (n1 c1 : Nat) (l1 : List (Int × Int)) (o : Int) (A : Option Addr) (n c : Nat) (zs : List Int) (h m : Int) (b : Bool) (A2 : Option Addr) (n2 c2 : Nat) (l2 : List (Int × Int)) (u : UpR w A1 n1 l1 A n zs h A2 n2 l2) (z1 : n1 ≤ 100000) (z2 : n2 ≤ 100000) (z3 : n ≤ 100000) : Calls Try.prog 12 #[.agg #[.slice A1 n1 c1, .int .i64 o, .slice A n c, .int .u32 h, .int .i64 m, .bool b, .slice A2 n2 c2]] w fun e w' => ∃ v, e = .returned v ∧ OwnB w' w.heap.size v (upB l1 l2 o zs h m b).length (upB l1 l2 o zs h m b) ∧ Below w.heap.size w w' := by
  have hB := (Below.refl w.heap.size w).alloc (Nat.le_refl _) (.cells #[.slice A1 n1 c1, .int .i64 o, .slice A n c, .int .u32 h, .int .i64 m, .bool b, .slice A2 n2 c2] 28)
  have hp := Blk.new w 28 #[.slice A1 n1 c1, .int .i64 o, .slice A n c, .int .u32 h, .int .i64 m, .bool b, .slice A2 n2 c2]
  have hlen : (bodyB l1 l2 o zs h m b).length ≤ 100000000 := by
    have hal := attU_le l2 o zs h m b
    have hp1 := pfAll_len l1
    have hp2 := pfAll_len l2
    have := u.s1.1
    have := u.s2.1
    unfold bodyB
    rw [List.length_append, List.length_append, cntB_len, cntB_len]
    omega
  go_enter Try.func12, Try.ntmps12
  go_upto_region 1 with (fail)
  generalize w.alloc (.cells #[.slice A1 n1 c1, .int .i64 o, .slice A n c, .int .u32 h, .int .i64 m, .bool b, .slice A2 n2 c2] 28) = w1 at *
  have hz := hB.size
  have u1 := u.nx hB
  have hgd := upGood_any w1 A1 n1 c1 l1 o A n c zs h m b A2 n2 c2 l2 u1 (by omega) (by omega) z3
  have q0 : w1.cell? ⟨w.heap.size, 0, none⟩ = some (.slice A1 n1 c1) := hp.cellv 0 rfl
  have q1 : w1.cell? ⟨w.heap.size, 1, none⟩ = some (.int .i64 o) := hp.cellv 1 rfl
  have q2 : w1.cell? ⟨w.heap.size, 2, none⟩ = some (.slice A n c) := hp.cellv 2 rfl
  have q3 : w1.cell? ⟨w.heap.size, 3, none⟩ = some (.int .u32 h) := hp.cellv 3 rfl
  have q4 : w1.cell? ⟨w.heap.size, 4, none⟩ = some (.int .i64 m) := hp.cellv 4 rfl
  have q5 : w1.cell? ⟨w.heap.size, 5, none⟩ = some (.bool b) := hp.cellv 5 rfl
  have q6 : w1.cell? ⟨w.heap.size, 6, none⟩ = some (.slice A2 n2 c2) := hp.cellv 6 rfl
  have ql := hp.lt
  cases hg : goodU l1 l2 o zs h m b
  · have e := Lib.hid (show [] = upB l1 l2 o zs h m b by unfold upB; rw [if_neg (by rw [hg]; simp)])
    rw [hg] at hgd
    replace hg := Lib.hid hg
    go_wp2_with (go_at_call 10; refine hgd.mono ?_; rintro e w2 ⟨rfl, hb2⟩; have hp2 := hp.below hb2 hp.lt; have u2 := u1.nx hb2; clear q0 q1 q2 q3 q4 q5 q6 ql; have q0 : w2.cell? ⟨w.heap.size, 0, none⟩ = some (.slice A1 n1 c1) := hp2.cellv 0 rfl; have q1 : w2.cell? ⟨w.heap.size, 1, none⟩ = some (.int .i64 o) := hp2.cellv 1 rfl; have q2 : w2.cell? ⟨w.heap.size, 2, none⟩ = some (.slice A n c) := hp2.cellv 2 rfl; have q3 : w2.cell? ⟨w.heap.size, 3, none⟩ = some (.int .u32 h) := hp2.cellv 3 rfl; have q4 : w2.cell? ⟨w.heap.size, 4, none⟩ = some (.int .i64 m) := hp2.cellv 4 rfl; have q5 : w2.cell? ⟨w.heap.size, 5, none⟩ = some (.bool b) := hp2.cellv 5 rfl; have q6 : w2.cell? ⟨w.heap.size, 6, none⟩ = some (.slice A2 n2 c2) := hp2.cellv 6 rfl; have ql := hp2.lt)
    go_ret
    exact ⟨_, rfl, by rw [← e.out]; exact OwnB.nil _ _, hB.trans (hb2.mono hz)⟩
  by_cases hk : (bodyB l1 l2 o zs h m b).length ≤ 4077
  · have e := Lib.hid (show bodyB l1 l2 o zs h m b = upB l1 l2 o zs h m b by unfold upB; rw [if_pos ⟨hg, hk⟩])
    rw [hg] at hgd
    replace hg := Lib.hid hg
    have hki : ((bodyB l1 l2 o zs h m b).length : Int) ≤ 4077 := by omega
    go_wp2_with (first
      | (go_at_call 10; refine hgd.mono ?_; rintro e w2 ⟨rfl, hb2⟩; have hp2 := hp.below hb2 hp.lt; have u2 := u1.nx hb2; clear q0 q1 q2 q3 q4 q5 q6 ql; have q0 : w2.cell? ⟨w.heap.size, 0, none⟩ = some (.slice A1 n1 c1) := hp2.cellv 0 rfl; have q1 : w2.cell? ⟨w.heap.size, 1, none⟩ = some (.int .i64 o) := hp2.cellv 1 rfl; have q2 : w2.cell? ⟨w.heap.size, 2, none⟩ = some (.slice A n c) := hp2.cellv 2 rfl; have q3 : w2.cell? ⟨w.heap.size, 3, none⟩ = some (.int .u32 h) := hp2.cellv 3 rfl; have q4 : w2.cell? ⟨w.heap.size, 4, none⟩ = some (.int .i64 m) := hp2.cellv 4 rfl; have q5 : w2.cell? ⟨w.heap.size, 5, none⟩ = some (.bool b) := hp2.cellv 5 rfl; have q6 : w2.cell? ⟨w.heap.size, 6, none⟩ = some (.slice A2 n2 c2) := hp2.cellv 6 rfl; have ql := hp2.lt)
      | (go_at_call 31; refine (upBody_any w2 A1 n1 c1 l1 o A n c zs h m b A2 n2 c2 l2 u2 z1 z2 z3).mono ?_; rintro e w3 ⟨v3, rfl, own3, hb3⟩; obtain ⟨A3, c3, rfl, hc3, hcm3, by3, hA3⟩ := own3.any2; have hB3 := hB.trans ((hb2.trans (hb3.mono hb2.size)).mono hz)))
    go_ret
    exact ⟨_, rfl, by rw [← e.out]; exact own3.less (Nat.le_trans hz hb2.size), hB3⟩
  · have e := Lib.hid (show [] = upB l1 l2 o zs h m b by unfold upB; rw [if_neg (fun q => hk q.2)])
    rw [hg] at hgd
    replace hg := Lib.hid hg
    have hki : ¬ (((bodyB l1 l2 o zs h m b).length : Int) ≤ 4077) := by omega
    go_wp2_with (first
      | (go_at_call 10; refine hgd.mono ?_; rintro e w2 ⟨rfl, hb2⟩; have hp2 := hp.below hb2 hp.lt; have u2 := u1.nx hb2; clear q0 q1 q2 q3 q4 q5 q6 ql; have q0 : w2.cell? ⟨w.heap.size, 0, none⟩ = some (.slice A1 n1 c1) := hp2.cellv 0 rfl; have q1 : w2.cell? ⟨w.heap.size, 1, none⟩ = some (.int .i64 o) := hp2.cellv 1 rfl; have q2 : w2.cell? ⟨w.heap.size, 2, none⟩ = some (.slice A n c) := hp2.cellv 2 rfl; have q3 : w2.cell? ⟨w.heap.size, 3, none⟩ = some (.int .u32 h) := hp2.cellv 3 rfl; have q4 : w2.cell? ⟨w.heap.size, 4, none⟩ = some (.int .i64 m) := hp2.cellv 4 rfl; have q5 : w2.cell? ⟨w.heap.size, 5, none⟩ = some (.bool b) := hp2.cellv 5 rfl; have q6 : w2.cell? ⟨w.heap.size, 6, none⟩ = some (.slice A2 n2 c2) := hp2.cellv 6 rfl; have ql := hp2.lt)
      | (go_at_call 31; refine (upBody_any w2 A1 n1 c1 l1 o A n c zs h m b A2 n2 c2 l2 u2 z1 z2 z3).mono ?_; rintro e w3 ⟨v3, rfl, own3, hb3⟩; obtain ⟨A3, c3, rfl, hc3, hcm3, by3, hA3⟩ := own3.any2; have hB3 := hB.trans ((hb2.trans (hb3.mono hb2.size)).mono hz)))
    go_ret
    exact ⟨_, rfl, by rw [← e.out]; exact OwnB.nil _ _, hB3⟩
set_option maxRecDepth 100000 in
set_option maxHeartbeats 4000000 in
theorem refUpSize_any (w : World) (A1 : Option Addr) (n1 c1 : Nat) (l1 : List (Int × Int)) (o : Int) (A : Option Addr) (n c : Nat) (zs : List Int) (h m : Int) (b : Bool) (A2 : Option Addr) (n2 c2 : Nat) (l2 : List (Int × Int)) (u : UpR w A1 n1 l1 A n zs h A2 n2 l2) (z1 : n1 ≤ 100000) (z2 : n2 ≤ 100000) (z3 : n ≤ 100000) : Calls Try.prog 15 #[.agg #[.slice A1 n1 c1, .int .i64 o, .slice A n c, .int .u32 h, .int .i64 m, .bool b, .slice A2 n2 c2]] w fun e w' => e = .returned (.int .i64 (upSize l1 l2 o zs h m b)) ∧ Below w.heap.size w w' := by
  have hB := (Below.refl w.heap.size w).alloc (Nat.le_refl _) (.cells #[.slice A1 n1 c1, .int .i64 o, .slice A n c, .int .u32 h, .int .i64 m, .bool b, .slice A2 n2 c2] 33)
  have hp := Blk.new w 33 #[.slice A1 n1 c1, .int .i64 o, .slice A n c, .int .u32 h, .int .i64 m, .bool b, .slice A2 n2 c2]
  have hlen : (bodyB l1 l2 o zs h m b).length ≤ 100000000 := by
    have hal := attU_le l2 o zs h m b
    have hp1 := pfAll_len l1
    have hp2 := pfAll_len l2
    have := u.s1.1
    have := u.s2.1
    unfold bodyB
    rw [List.length_append, List.length_append, cntB_len, cntB_len]
    omega
  go_enter Try.func15, Try.ntmps15
  go_upto_region 1 with (fail)
  generalize w.alloc (.cells #[.slice A1 n1 c1, .int .i64 o, .slice A n c, .int .u32 h, .int .i64 m, .bool b, .slice A2 n2 c2] 33) = w1 at *
  have hz := hB.size
  have u1 := u.nx hB
  have hgd := refUpGood_any w1 A1 n1 c1 l1 o A n c zs h m b A2 n2 c2 l2 u1 (by omega) (by omega) z3
  have q0 : w1.cell? ⟨w.heap.size, 0, none⟩ = some (.slice A1 n1 c1) := hp.cellv 0 rfl
  have q1 : w1.cell? ⟨w.heap.size, 1, none⟩ = some (.int .i64 o) := hp.cellv 1 rfl
  have q2 : w1.cell? ⟨w.heap.size, 2, none⟩ = some (.slice A n c) := hp.cellv 2 rfl
  have q3 : w1.cell? ⟨w.heap.size, 3, none⟩ = some (.int .u32 h) := hp.cellv 3 rfl
  have q4 : w1.cell? ⟨w.heap.size, 4, none⟩ = some (.int .i64 m) := hp.cellv 4 rfl
  have q5 : w1.cell? ⟨w.heap.size, 5, none⟩ = some (.bool b) := hp.cellv 5 rfl
  have q6 : w1.cell? ⟨w.heap.size, 6, none⟩ = some (.slice A2 n2 c2) := hp.cellv 6 rfl
  have ql := hp.lt
  cases hg : goodU l1 l2 o zs h m b
  · have e := Lib.hid (show (0 : Int) = upSize l1 l2 o zs h m b by unfold upSize; rw [hg]; rfl)
    rw [hg] at hgd
    replace hg := Lib.hid hg
    go_wp2_with (go_at_call 11; refine hgd.mono ?_; rintro e w2 ⟨rfl, hb2⟩; have hp2 := hp.below hb2 hp.lt; have u2 := u1.nx hb2; clear q0 q1 q2 q3 q4 q5 q6 ql; have q0 : w2.cell? ⟨w.heap.size, 0, none⟩ = some (.slice A1 n1 c1) := hp2.cellv 0 rfl; have q1 : w2.cell? ⟨w.heap.size, 1, none⟩ = some (.int .i64 o) := hp2.cellv 1 rfl; have q2 : w2.cell? ⟨w.heap.size, 2, none⟩ = some (.slice A n c) := hp2.cellv 2 rfl; have q3 : w2.cell? ⟨w.heap.size, 3, none⟩ = some (.int .u32 h) := hp2.cellv 3 rfl; have q4 : w2.cell? ⟨w.heap.size, 4, none⟩ = some (.int .i64 m) := hp2.cellv 4 rfl; have q5 : w2.cell? ⟨w.heap.size, 5, none⟩ = some (.bool b) := hp2.cellv 5 rfl; have q6 : w2.cell? ⟨w.heap.size, 6, none⟩ = some (.slice A2 n2 c2) := hp2.cellv 6 rfl; have ql := hp2.lt)
    go_ret
    exact ⟨ret_int e.out, hB.trans (hb2.mono hz)⟩
  · have e := Lib.hid (show ((bodyB l1 l2 o zs h m b).length : Int) = upSize l1 l2 o zs h m b by unfold upSize; rw [hg]; rfl)
    rw [hg] at hgd
    replace hg := Lib.hid hg
    go_wp2_with (first
      | (go_at_call 11; refine hgd.mono ?_; rintro e w2 ⟨rfl, hb2⟩; have hp2 := hp.below hb2 hp.lt; have u2 := u1.nx hb2; clear q0 q1 q2 q3 q4 q5 q6 ql; have q0 : w2.cell? ⟨w.heap.size, 0, none⟩ = some (.slice A1 n1 c1) := hp2.cellv 0 rfl; have q1 : w2.cell? ⟨w.heap.size, 1, none⟩ = some (.int .i64 o) := hp2.cellv 1 rfl; have q2 : w2.cell? ⟨w.heap.size, 2, none⟩ = some (.slice A n c) := hp2.cellv 2 rfl; have q3 : w2.cell? ⟨w.heap.size, 3, none⟩ = some (.int .u32 h) := hp2.cellv 3 rfl; have q4 : w2.cell? ⟨w.heap.size, 4, none⟩ = some (.int .i64 m) := hp2.cellv 4 rfl; have q5 : w2.cell? ⟨w.heap.size, 5, none⟩ = some (.bool b) := hp2.cellv 5 rfl; have q6 : w2.cell? ⟨w.heap.size, 6, none⟩ = some (.slice A2 n2 c2) := hp2.cellv 6 rfl; have ql := hp2.lt)
      | (go_at_call 32; refine (refUpBody_any w2 A1 n1 c1 l1 o A n c zs h m b A2 n2 c2 l2 u2 z1 z2 z3).mono ?_; rintro e w3 ⟨v3, rfl, own3, hb3⟩; obtain ⟨A3, c3, rfl, hc3, hcm3, by3, hA3⟩ := own3.any2; have hB3 := hB.trans ((hb2.trans (hb3.mono hb2.size)).mono hz)))
    go_ret
    exact ⟨ret_int e.out, hB3⟩
set_option maxRecDepth 100000 in
set_option maxHeartbeats 4000000 in
theorem refUpBytes_any (w : World) (A1 : Option Addr) (n1 c1 : Nat) (l1 : List (Int × Int)) (o : Int) (A : Option Addr) (n c : Nat) (zs : List Int) (h m : Int) (b : Bool) (A2 : Option Addr) (n2 c2 : Nat) (l2 : List (Int × Int)) (u : UpR w A1 n1 l1 A n zs h A2 n2 l2) (z1 : n1 ≤ 100000) (z2 : n2 ≤ 100000) (z3 : n ≤ 100000) : Calls Try.prog 13 #[.agg #[.slice A1 n1 c1, .int .i64 o, .slice A n c, .int .u32 h, .int .i64 m, .bool b, .slice A2 n2 c2]] w fun e w' => ∃ v, e = .returned v ∧ OwnB w' w.heap.size v (upB l1 l2 o zs h m b).length (upB l1 l2 o zs h m b) ∧ Below w.heap.size w w' := by
  have hB := (Below.refl w.heap.size w).alloc (Nat.le_refl _) (.cells #[.slice A1 n1 c1, .int .i64 o, .slice A n c, .int .u32 h, .int .i64 m, .bool b, .slice A2 n2 c2] 33)
  have hp := Blk.new w 33 #[.slice A1 n1 c1, .int .i64 o, .slice A n c, .int .u32 h, .int .i64 m, .bool b, .slice A2 n2 c2]
  have hlen : (bodyB l1 l2 o zs h m b).length ≤ 100000000 := by
    have hal := attU_le l2 o zs h m b
    have hp1 := pfAll_len l1
    have hp2 := pfAll_len l2
    have := u.s1.1
    have := u.s2.1
    unfold bodyB
    rw [List.length_append, List.length_append, cntB_len, cntB_len]
    omega
  go_enter Try.func13, Try.ntmps13
  go_upto_region 1 with (fail)
  generalize w.alloc (.cells #[.slice A1 n1 c1, .int .i64 o, .slice A n c, .int .u32 h, .int .i64 m, .bool b, .slice A2 n2 c2] 33) = w1 at *
  have hz := hB.size
  have u1 := u.nx hB
  have hgd := refUpGood_any w1 A1 n1 c1 l1 o A n c zs h m b A2 n2 c2 l2 u1 (by omega) (by omega) z3
  have q0 : w1.cell? ⟨w.heap.size, 0, none⟩ = some (.slice A1 n1 c1) := hp.cellv 0 rfl
  have q1 : w1.cell? ⟨w.heap.size, 1, none⟩ = some (.int .i64 o) := hp.cellv 1 rfl
  have q2 : w1.cell? ⟨w.heap.size, 2, none⟩ = some (.slice A n c) := hp.cellv 2 rfl
  have q3 : w1.cell? ⟨w.heap.size, 3, none⟩ = some (.int .u32 h) := hp.cellv 3 rfl
  have q4 : w1.cell? ⟨w.heap.size, 4, none⟩ = some (.int .i64 m) := hp.cellv 4 rfl
  have q5 : w1.cell? ⟨w.heap.size, 5, none⟩ = some (.bool b) := hp.cellv 5 rfl
  have q6 : w1.cell? ⟨w.heap.size, 6, none⟩ = some (.slice A2 n2 c2) := hp.cellv 6 rfl
  have ql := hp.lt
  cases hg : goodU l1 l2 o zs h m b
  · have e := Lib.hid (show [] = upB l1 l2 o zs h m b by unfold upB; rw [if_neg (by rw [hg]; simp)])
    rw [hg] at hgd
    replace hg := Lib.hid hg
    go_wp2_with (go_at_call 11; refine hgd.mono ?_; rintro e w2 ⟨rfl, hb2⟩; have hp2 := hp.below hb2 hp.lt; have u2 := u1.nx hb2; clear q0 q1 q2 q3 q4 q5 q6 ql; have q0 : w2.cell? ⟨w.heap.size, 0, none⟩ = some (.slice A1 n1 c1) := hp2.cellv 0 rfl; have q1 : w2.cell? ⟨w.heap.size, 1, none⟩ = some (.int .i64 o) := hp2.cellv 1 rfl; have q2 : w2.cell? ⟨w.heap.size, 2, none⟩ = some (.slice A n c) := hp2.cellv 2 rfl; have q3 : w2.cell? ⟨w.heap.size, 3, none⟩ = some (.int .u32 h) := hp2.cellv 3 rfl; have q4 : w2.cell? ⟨w.heap.size, 4, none⟩ = some (.int .i64 m) := hp2.cellv 4 rfl; have q5 : w2.cell? ⟨w.heap.size, 5, none⟩ = some (.bool b) := hp2.cellv 5 rfl; have q6 : w2.cell? ⟨w.heap.size, 6, none⟩ = some (.slice A2 n2 c2) := hp2.cellv 6 rfl; have ql := hp2.lt)
    go_ret
    exact ⟨_, rfl, by rw [← e.out]; exact OwnB.nil _ _, hB.trans (hb2.mono hz)⟩
  by_cases hk : (bodyB l1 l2 o zs h m b).length ≤ 4077
  · have e := Lib.hid (show bodyB l1 l2 o zs h m b = upB l1 l2 o zs h m b by unfold upB; rw [if_pos ⟨hg, hk⟩])
    rw [hg] at hgd
    replace hg := Lib.hid hg
    have hki : ((bodyB l1 l2 o zs h m b).length : Int) ≤ 4077 := by omega
    have tok := True.intro
    go_wp2_with (first
      | (go_at_call 11; refine hgd.mono ?_; rintro e w2 ⟨rfl, hb2⟩; have hp2 := hp.below hb2 hp.lt; have u2 := u1.nx hb2; clear q0 q1 q2 q3 q4 q5 q6 ql; have q0 : w2.cell? ⟨w.heap.size, 0, none⟩ = some (.slice A1 n1 c1) := hp2.cellv 0 rfl; have q1 : w2.cell? ⟨w.heap.size, 1, none⟩ = some (.int .i64 o) := hp2.cellv 1 rfl; have q2 : w2.cell? ⟨w.heap.size, 2, none⟩ = some (.slice A n c) := hp2.cellv 2 rfl; have q3 : w2.cell? ⟨w.heap.size, 3, none⟩ = some (.int .u32 h) := hp2.cellv 3 rfl; have q4 : w2.cell? ⟨w.heap.size, 4, none⟩ = some (.int .i64 m) := hp2.cellv 4 rfl; have q5 : w2.cell? ⟨w.heap.size, 5, none⟩ = some (.bool b) := hp2.cellv 5 rfl; have q6 : w2.cell? ⟨w.heap.size, 6, none⟩ = some (.slice A2 n2 c2) := hp2.cellv 6 rfl; have ql := hp2.lt)
      | (go_at_call 32; have tok9 := tok; refine (refUpBody_any w2 A1 n1 c1 l1 o A n c zs h m b A2 n2 c2 l2 u2 z1 z2 z3).mono ?_; rintro e w3 ⟨v3, rfl, own3, hb3⟩; obtain ⟨A3, c3, rfl, hc3, hcm3, by3, hA3⟩ := own3.any2; have hB3 := hB.trans ((hb2.trans (hb3.mono hb2.size)).mono hz); have tok2 := tok; clear tok; have hp3 := hp2.below hb3 hp2.lt; have u3 := u2.nx hb3; clear q0 q1 q2 q3 q4 q5 q6 ql; have q0 : w3.cell? ⟨w.heap.size, 0, none⟩ = some (.slice A1 n1 c1) := hp3.cellv 0 rfl; have q1 : w3.cell? ⟨w.heap.size, 1, none⟩ = some (.int .i64 o) := hp3.cellv 1 rfl; have q2 : w3.cell? ⟨w.heap.size, 2, none⟩ = some (.slice A n c) := hp3.cellv 2 rfl; have q3 : w3.cell? ⟨w.heap.size, 3, none⟩ = some (.int .u32 h) := hp3.cellv 3 rfl; have q4 : w3.cell? ⟨w.heap.size, 4, none⟩ = some (.int .i64 m) := hp3.cellv 4 rfl; have q5 : w3.cell? ⟨w.heap.size, 5, none⟩ = some (.bool b) := hp3.cellv 5 rfl; have q6 : w3.cell? ⟨w.heap.size, 6, none⟩ = some (.slice A2 n2 c2) := hp3.cellv 6 rfl; have ql := hp3.lt)
      | (go_at_call 32; refine (refUpBody_any w3 A1 n1 c1 l1 o A n c zs h m b A2 n2 c2 l2 u3 z1 z2 z3).mono ?_; rintro e w4 ⟨v4, rfl, own4, hb4⟩))
    go_ret
    exact ⟨_, rfl, by rw [← e.out]; exact own4.less (Nat.le_trans (Nat.le_trans hz hb2.size) hb3.size), hB3.trans (hb4.mono hB3.size)⟩
  · have e := Lib.hid (show [] = upB l1 l2 o zs h m b by unfold upB; rw [if_neg (fun q => hk q.2)])
    rw [hg] at hgd
    replace hg := Lib.hid hg
    have hki : (4077 : Int) < (bodyB l1 l2 o zs h m b).length := by omega
    go_wp2_with (first
      | (go_at_call 11; refine hgd.mono ?_; rintro e w2 ⟨rfl, hb2⟩; have hp2 := hp.below hb2 hp.lt; have u2 := u1.nx hb2; clear q0 q1 q2 q3 q4 q5 q6 ql; have q0 : w2.cell? ⟨w.heap.size, 0, none⟩ = some (.slice A1 n1 c1) := hp2.cellv 0 rfl; have q1 : w2.cell? ⟨w.heap.size, 1, none⟩ = some (.int .i64 o) := hp2.cellv 1 rfl; have q2 : w2.cell? ⟨w.heap.size, 2, none⟩ = some (.slice A n c) := hp2.cellv 2 rfl; have q3 : w2.cell? ⟨w.heap.size, 3, none⟩ = some (.int .u32 h) := hp2.cellv 3 rfl; have q4 : w2.cell? ⟨w.heap.size, 4, none⟩ = some (.int .i64 m) := hp2.cellv 4 rfl; have q5 : w2.cell? ⟨w.heap.size, 5, none⟩ = some (.bool b) := hp2.cellv 5 rfl; have q6 : w2.cell? ⟨w.heap.size, 6, none⟩ = some (.slice A2 n2 c2) := hp2.cellv 6 rfl; have ql := hp2.lt)
      | (go_at_call 32; refine (refUpBody_any w2 A1 n1 c1 l1 o A n c zs h m b A2 n2 c2 l2 u2 z1 z2 z3).mono ?_; rintro e w3 ⟨v3, rfl, own3, hb3⟩; obtain ⟨A3, c3, rfl, hc3, hcm3, by3, hA3⟩ := own3.any2; have hB3 := hB.trans ((hb2.trans (hb3.mono hb2.size)).mono hz)))
    go_ret
    exact ⟨_, rfl, by rw [← e.out]; exact OwnB.nil _ _, hB3⟩
end Go.Proofs.Ytfnclmacodchfaa

/- update: Same, the document's; Empty. -/
namespace Go.Proofs.Ytfnclmacodchfaa
set_option linter.unusedVariables false
open Go Go.RowKit

/-- are two bodies alike? -/
def sameU (l1 l2 : List (Int × Int)) (o : Int) (zs : List Int) (h m : Int) (b : Bool) (l1' l2' : List (Int × Int)) (o' : Int) (zs' : List Int) (h' m' : Int) (b' : Bool) : Bool := (decide (l1 = l1') && decide (l2 = l2')) && sameA o zs h m b o' zs' h' m' b'
set_option maxRecDepth 100000 in
set_option maxHeartbeats 8000000 in
theorem upSame_any (w : World) (A1 : Option Addr) (n1 c1 : Nat) (l1 : List (Int × Int)) (o : Int) (A : Option Addr) (n c : Nat) (zs : List Int) (h m : Int) (b : Bool) (A2 : Option Addr) (n2 c2 : Nat) (l2 : List (Int × Int)) (A1' : Option Addr) (n1' c1' : Nat) (l1' : List (Int × Int)) (o' : Int) (A' : Option Addr) (n' c' : Nat) (zs' : List Int) (h' m' : Int) (b' : Bool) (A2' : Option Addr) (n2' c2' : Nat) (l2' : List (Int × Int)) (u : UpR w A1 n1 l1 A n zs h A2 n2 l2) (u' : UpR w A1' n1' l1' A' n' zs' h' A2' n2' l2') (z1 : n1 ≤ 1000000) (z2 : n2 ≤ 1000000) (z3 : n ≤ 100000) :
    Calls Try.prog 16 #[.agg #[.slice A1 n1 c1, .int .i64 o, .slice A n c, .int .u32 h, .int .i64 m, .bool b, .slice A2 n2 c2], .agg #[.slice A1' n1' c1', .int .i64 o', .slice A' n' c', .int .u32 h', .int .i64 m', .bool b', .slice A2' n2' c2']] w fun e w' => e = .returned (.bool (sameU l1 l2 o zs h m b l1' l2' o' zs' h' m' b')) ∧ Below w.heap.size w w' := by
  have hB := ((Below.refl w.heap.size w).alloc (Nat.le_refl _) (.cells #[.slice A1 n1 c1, .int .i64 o, .slice A n c, .int .u32 h, .int .i64 m, .bool b, .slice A2 n2 c2] 28)).alloc (by simp) (.cells #[.slice A1' n1' c1', .int .i64 o', .slice A' n' c', .int .u32 h', .int .i64 m', .bool b', .slice A2' n2' c2'] 28)
  have hp := (Blk.new w 28 #[.slice A1 n1 c1, .int .i64 o, .slice A n c, .int .u32 h, .int .i64 m, .bool b, .slice A2 n2 c2]).alloc (.cells #[.slice A1' n1' c1', .int .i64 o', .slice A' n' c', .int .u32 h', .int .i64 m', .bool b', .slice A2' n2' c2'] 28)
  have hp' : Blk ((w.alloc (.cells #[.slice A1 n1 c1, .int .i64 o, .slice A n c, .int .u32 h, .int .i64 m, .bool b, .slice A2 n2 c2] 28)).alloc (.cells #[.slice A1' n1' c1', .int .i64 o', .slice A' n' c', .int .u32 h', .int .i64 m', .bool b', .slice A2' n2' c2'] 28)) (w.heap.size + 1) 28 #[.slice A1' n1' c1', .int .i64 o', .slice A' n' c', .int .u32 h', .int .i64 m', .bool b', .slice A2' n2' c2'] := by
    have := Blk.new (w.alloc (.cells #[.slice A1 n1 c1, .int .i64 o, .slice A n c, .int .u32 h, .int .i64 m, .bool b, .slice A2 n2 c2] 28)) 28 #[.slice A1' n1' c1', .int .i64 o', .slice A' n' c', .int .u32 h', .int .i64 m', .bool b', .slice A2' n2' c2']
    simpa using this
  go_enter Try.func16, Try.ntmps16
  go_upto_region 1 with (fail)
  generalize (w.alloc (.cells #[.slice A1 n1 c1, .int .i64 o, .slice A n c, .int .u32 h, .int .i64 m, .bool b, .slice A2 n2 c2] 28)).alloc (.cells #[.slice A1' n1' c1', .int .i64 o', .slice A' n' c', .int .u32 h', .int .i64 m', .bool b', .slice A2' n2' c2'] 28) = w1 at *
  have hz := hB.size
  have u1 := u.nx hB
  have u1' := u'.nx hB
  have q0 : w1.cell? ⟨w.heap.size, 0, none⟩ = some (.slice A1 n1 c1) := hp.cellv 0 rfl
  have q1 : w1.cell? ⟨w.heap.size, 1, none⟩ = some (.int .i64 o) := hp.cellv 1 rfl
  have q2 : w1.cell? ⟨w.heap.size, 2, none⟩ = some (.slice A n c) := hp.cellv 2 rfl
  have q3 : w1.cell? ⟨w.heap.size, 3, none⟩ = some (.int .u32 h) := hp.cellv 3 rfl
  have q4 : w1.cell? ⟨w.heap.size, 4, none⟩ = some (.int .i64 m) := hp.cellv 4 rfl
  have q5 : w1.cell? ⟨w.heap.size, 5, none⟩ = some (.bool b) := hp.cellv 5 rfl
  have q6 : w1.cell? ⟨w.heap.size, 6, none⟩ = some (.slice A2 n2 c2) := hp.cellv 6 rfl
  have p0 : w1.cell? ⟨w.heap.size + 1, 0, none⟩ = some (.slice A1' n1' c1') := hp'.cellv 0 rfl
  have p1 : w1.cell? ⟨w.heap.size + 1, 1, none⟩ = some (.int .i64 o') := hp'.cellv 1 rfl
  have p2 : w1.cell? ⟨w.heap.size + 1, 2, none⟩ = some (.slice A' n' c') := hp'.cellv 2 rfl
  have p3 : w1.cell? ⟨w.heap.size + 1, 3, none⟩ = some (.int .u32 h') := hp'.cellv 3 rfl
  have p4 : w1.cell? ⟨w.heap.size + 1, 4, none⟩ = some (.int .i64 m') := hp'.cellv 4 rfl
  have p5 : w1.cell? ⟨w.heap.size + 1, 5, none⟩ = some (.bool b') := hp'.cellv 5 rfl
  have p6 : w1.cell? ⟨w.heap.size + 1, 6, none⟩ = some (.slice A2' n2' c2') := hp'.cellv 6 rfl
  have ql := hp.lt
  have pl := hp'.lt
  have hE1 := equalP_any w1 (fun b => b < w1.heap.size) (fun b => b < w1.heap.size) A1 n1 c1 l1 A1' n1' c1' l1' u1.s1 u1'.s1 (fun _ h => h) (fun _ h => h) z1
  have hE2 := fun (w2 : World) (hb : Below w1.heap.size w1 w2) => equalP_any w2 (fun b => b < w2.heap.size) (fun b => b < w2.heap.size) A2 n2 c2 l2 A2' n2' c2' l2' (u1.nx hb).s2 (u1'.nx hb).s2 (fun _ h => h) (fun _ h => h) z2
  cases d1 : decide (l1 = l1')
  · have e := Lib.hid (show sameU l1 l2 o zs h m b l1' l2' o' zs' h' m' b' = false by unfold sameU; rw [d1]; rfl)
    rw [d1] at hE1
    replace d1 := Lib.hid d1
    go_wp2_with (go_at_call 33; refine hE1.mono ?_; rintro e w2 ⟨rfl, hb2⟩)
    go_ret
    exact ⟨ret_bool e.out.symm, hB.trans (hb2.mono hz)⟩
  rw [d1] at hE1
  have k1 : (decide (l1 = l1')) = true := d1
  replace k1 := Lib.hid k1
  replace d1 := Lib.hid d1
  cases d2 : decide (l2 = l2')
  · have e := Lib.hid (show sameU l1 l2 o zs h m b l1' l2' o' zs' h' m' b' = false by unfold sameU; rw [k1.out, d2]; rfl)
    rw [d2] at hE2
    replace d2 := Lib.hid d2
    go_wp2_with (go_at_call 33; first
      | (with_reducible refine hE1.mono ?_; rintro e w2 ⟨rfl, hb2⟩; replace hp := hp.below hb2 hp.lt; replace hp' := hp'.below hb2 hp'.lt; clear q0 q1 q2 q3 q4 q5 q6 ql p0 p1 p2 p3 p4 p5 p6 pl; have q0 : w2.cell? ⟨w.heap.size, 0, none⟩ = some (.slice A1 n1 c1) := hp.cellv 0 rfl; have q1 : w2.cell? ⟨w.heap.size, 1, none⟩ = some (.int .i64 o) := hp.cellv 1 rfl; have q2 : w2.cell? ⟨w.heap.size, 2, none⟩ = some (.slice A n c) := hp.cellv 2 rfl; have q3 : w2.cell? ⟨w.heap.size, 3, none⟩ = some (.int .u32 h) := hp.cellv 3 rfl; have q4 : w2.cell? ⟨w.heap.size, 4, none⟩ = some (.int .i64 m) := hp.cellv 4 rfl; have q5 : w2.cell? ⟨w.heap.size, 5, none⟩ = some (.bool b) := hp.cellv 5 rfl; have q6 : w2.cell? ⟨w.heap.size, 6, none⟩ = some (.slice A2 n2 c2) := hp.cellv 6 rfl; have p0 : w2.cell? ⟨w.heap.size + 1, 0, none⟩ = some (.slice A1' n1' c1') := hp'.cellv 0 rfl; have p1 : w2.cell? ⟨w.heap.size + 1, 1, none⟩ = some (.int .i64 o') := hp'.cellv 1 rfl; have p2 : w2.cell? ⟨w.heap.size + 1, 2, none⟩ = some (.slice A' n' c') := hp'.cellv 2 rfl; have p3 : w2.cell? ⟨w.heap.size + 1, 3, none⟩ = some (.int .u32 h') := hp'.cellv 3 rfl; have p4 : w2.cell? ⟨w.heap.size + 1, 4, none⟩ = some (.int .i64 m') := hp'.cellv 4 rfl; have p5 : w2.cell? ⟨w.heap.size + 1, 5, none⟩ = some (.bool b') := hp'.cellv 5 rfl; have p6 : w2.cell? ⟨w.heap.size + 1, 6, none⟩ = some (.slice A2' n2' c2') := hp'.cellv 6 rfl; have ql := hp.lt; have pl := hp'.lt)
      | (with_reducible refine (hE2 _ hb2).mono ?_; rintro e w3 ⟨rfl, hb3⟩))
    go_ret
    exact ⟨ret_bool e.out.symm, hB.trans ((hb2.trans (hb3.mono hb2.size)).mono hz)⟩
  rw [d2] at hE2
  have e := Lib.hid (show sameU l1 l2 o zs h m b l1' l2' o' zs' h' m' b' = sameA o zs h m b o' zs' h' m' b' by unfold sameU; rw [k1.out, d2]; rfl)
  replace d2 := Lib.hid d2
  go_wp2_with (first
    | (go_at_call 33; first
      | (with_reducible refine hE1.mono ?_; rintro e w2 ⟨rfl, hb2⟩; replace hp := hp.below hb2 hp.lt; replace hp' := hp'.below hb2 hp'.lt; clear q0 q1 q2 q3 q4 q5 q6 ql p0 p1 p2 p3 p4 p5 p6 pl; have q0 : w2.cell? ⟨w.heap.size, 0, none⟩ = some (.slice A1 n1 c1) := hp.cellv 0 rfl; have q1 : w2.cell? ⟨w.heap.size, 1, none⟩ = some (.int .i64 o) := hp.cellv 1 rfl; have q2 : w2.cell? ⟨w.heap.size, 2, none⟩ = some (.slice A n c) := hp.cellv 2 rfl; have q3 : w2.cell? ⟨w.heap.size, 3, none⟩ = some (.int .u32 h) := hp.cellv 3 rfl; have q4 : w2.cell? ⟨w.heap.size, 4, none⟩ = some (.int .i64 m) := hp.cellv 4 rfl; have q5 : w2.cell? ⟨w.heap.size, 5, none⟩ = some (.bool b) := hp.cellv 5 rfl; have q6 : w2.cell? ⟨w.heap.size, 6, none⟩ = some (.slice A2 n2 c2) := hp.cellv 6 rfl; have p0 : w2.cell? ⟨w.heap.size + 1, 0, none⟩ = some (.slice A1' n1' c1') := hp'.cellv 0 rfl; have p1 : w2.cell? ⟨w.heap.size + 1, 1, none⟩ = some (.int .i64 o') := hp'.cellv 1 rfl; have p2 : w2.cell? ⟨w.heap.size + 1, 2, none⟩ = some (.slice A' n' c') := hp'.cellv 2 rfl; have p3 : w2.cell? ⟨w.heap.size + 1, 3, none⟩ = some (.int .u32 h') := hp'.cellv 3 rfl; have p4 : w2.cell? ⟨w.heap.size + 1, 4, none⟩ = some (.int .i64 m') := hp'.cellv 4 rfl; have p5 : w2.cell? ⟨w.heap.size + 1, 5, none⟩ = some (.bool b') := hp'.cellv 5 rfl; have p6 : w2.cell? ⟨w.heap.size + 1, 6, none⟩ = some (.slice A2' n2' c2') := hp'.cellv 6 rfl; have ql := hp.lt; have pl := hp'.lt)
      | (with_reducible refine (hE2 _ hb2).mono ?_; rintro e w3 ⟨rfl, hb3⟩; have hb3b := hb2.trans (hb3.mono hb2.size); replace hp := hp.below hb3 hp.lt; replace hp' := hp'.below hb3 hp'.lt; clear q0 q1 q2 q3 q4 q5 q6 ql p0 p1 p2 p3 p4 p5 p6 pl; have q0 : w3.cell? ⟨w.heap.size, 0, none⟩ = some (.slice A1 n1 c1) := hp.cellv 0 rfl; have q1 : w3.cell? ⟨w.heap.size, 1, none⟩ = some (.int .i64 o) := hp.cellv 1 rfl; have q2 : w3.cell? ⟨w.heap.size, 2, none⟩ = some (.slice A n c) := hp.cellv 2 rfl; have q3 : w3.cell? ⟨w.heap.size, 3, none⟩ = some (.int .u32 h) := hp.cellv 3 rfl; have q4 : w3.cell? ⟨w.heap.size, 4, none⟩ = some (.int .i64 m) := hp.cellv 4 rfl; have q5 : w3.cell? ⟨w.heap.size, 5, none⟩ = some (.bool b) := hp.cellv 5 rfl; have q6 : w3.cell? ⟨w.heap.size, 6, none⟩ = some (.slice A2 n2 c2) := hp.cellv 6 rfl; have p0 : w3.cell? ⟨w.heap.size + 1, 0, none⟩ = some (.slice A1' n1' c1') := hp'.cellv 0 rfl; have p1 : w3.cell? ⟨w.heap.size + 1, 1, none⟩ = some (.int .i64 o') := hp'.cellv 1 rfl; have p2 : w3.cell? ⟨w.heap.size + 1, 2, none⟩ = some (.slice A' n' c') := hp'.cellv 2 rfl; have p3 : w3.cell? ⟨w.heap.size + 1, 3, none⟩ = some (.int .u32 h') := hp'.cellv 3 rfl; have p4 : w3.cell? ⟨w.heap.size + 1, 4, none⟩ = some (.int .i64 m') := hp'.cellv 4 rfl; have p5 : w3.cell? ⟨w.heap.size + 1, 5, none⟩ = some (.bool b') := hp'.cellv 5 rfl; have p6 : w3.cell? ⟨w.heap.size + 1, 6, none⟩ = some (.slice A2' n2' c2') := hp'.cellv 6 rfl; have ql := hp.lt; have pl := hp'.lt))
    | (go_at_call 27; refine (attrSame_any w3 o A n c zs h m b o' A' n' c' zs' h' m' b' (u1.nx hb3b).pa (u1'.nx hb3b).pa z3).mono ?_; rintro e w4 ⟨rfl, hb4⟩))
  go_ret
  exact ⟨ret_bool e.out.symm, hB.trans ((hb3b.trans (hb4.mono hb3b.size)).mono hz)⟩
set_option maxRecDepth 100000 in
set_option maxHeartbeats 8000000 in
theorem refUpSame_any (w : World) (A1 : Option Addr) (n1 c1 : Nat) (l1 : List (Int × Int)) (o : Int) (A : Option Addr) (n c : Nat) (zs : List Int) (h m : Int) (b : Bool) (A2 : Option Addr) (n2 c2 : Nat) (l2 : List (Int × Int)) (A1' : Option Addr) (n1' c1' : Nat) (l1' : List (Int × Int)) (o' : Int) (A' : Option Addr) (n' c' : Nat) (zs' : List Int) (h' m' : Int) (b' : Bool) (A2' : Option Addr) (n2' c2' : Nat) (l2' : List (Int × Int)) (u : UpR w A1 n1 l1 A n zs h A2 n2 l2) (u' : UpR w A1' n1' l1' A' n' zs' h' A2' n2' l2') (z1 : n1 ≤ 1000000) (z2 : n2 ≤ 1000000) (z3 : n ≤ 100000) :
    Calls Try.prog 17 #[.agg #[.slice A1 n1 c1, .int .i64 o, .slice A n c, .int .u32 h, .int .i64 m, .bool b, .slice A2 n2 c2], .agg #[.slice A1' n1' c1', .int .i64 o', .slice A' n' c', .int .u32 h', .int .i64 m', .bool b', .slice A2' n2' c2']] w fun e w' => e = .returned (.bool (sameU l1 l2 o zs h m b l1' l2' o' zs' h' m' b')) ∧ Below w.heap.size w w' := by
  have hB := ((Below.refl w.heap.size w).alloc (Nat.le_refl _) (.cells #[.slice A1 n1 c1, .int .i64 o, .slice A n c, .int .u32 h, .int .i64 m, .bool b, .slice A2 n2 c2] 33)).alloc (by simp) (.cells #[.slice A1' n1' c1', .int .i64 o', .slice A' n' c', .int .u32 h', .int .i64 m', .bool b', .slice A2' n2' c2'] 33)
  have hp := (Blk.new w 33 #[.slice A1 n1 c1, .int .i64 o, .slice A n c, .int .u32 h, .int .i64 m, .bool b, .slice A2 n2 c2]).alloc (.cells #[.slice A1' n1' c1', .int .i64 o', .slice A' n' c', .int .u32 h', .int .i64 m', .bool b', .slice A2' n2' c2'] 33)
  have hp' : Blk ((w.alloc (.cells #[.slice A1 n1 c1, .int .i64 o, .slice A n c, .int .u32 h, .int .i64 m, .bool b, .slice A2 n2 c2] 33)).alloc (.cells #[.slice A1' n1' c1', .int .i64 o', .slice A' n' c', .int .u32 h', .int .i64 m', .bool b', .slice A2' n2' c2'] 33)) (w.heap.size + 1) 33 #[.slice A1' n1' c1', .int .i64 o', .slice A' n' c', .int .u32 h', .int .i64 m', .bool b', .slice A2' n2' c2'] := by
    have := Blk.new (w.alloc (.cells #[.slice A1 n1 c1, .int .i64 o, .slice A n c, .int .u32 h, .int .i64 m, .bool b, .slice A2 n2 c2] 33)) 33 #[.slice A1' n1' c1', .int .i64 o', .slice A' n' c', .int .u32 h', .int .i64 m', .bool b', .slice A2' n2' c2']
    simpa using this
  go_enter Try.func17, Try.ntmps17
  go_upto_region 1 with (fail)
  generalize (w.alloc (.cells #[.slice A1 n1 c1, .int .i64 o, .slice A n c, .int .u32 h, .int .i64 m, .bool b, .slice A2 n2 c2] 33)).alloc (.cells #[.slice A1' n1' c1', .int .i64 o', .slice A' n' c', .int .u32 h', .int .i64 m', .bool b', .slice A2' n2' c2'] 33) = w1 at *
  have hz := hB.size
  have u1 := u.nx hB
  have u1' := u'.nx hB
  have q0 : w1.cell? ⟨w.heap.size, 0, none⟩ = some (.slice A1 n1 c1) := hp.cellv 0 rfl
  have q1 : w1.cell? ⟨w.heap.size, 1, none⟩ = some (.int .i64 o) := hp.cellv 1 rfl
  have q2 : w1.cell? ⟨w.heap.size, 2, none⟩ = some (.slice A n c) := hp.cellv 2 rfl
  have q3 : w1.cell? ⟨w.heap.size, 3, none⟩ = some (.int .u32 h) := hp.cellv 3 rfl
  have q4 : w1.cell? ⟨w.heap.size, 4, none⟩ = some (.int .i64 m) := hp.cellv 4 rfl
  have q5 : w1.cell? ⟨w.heap.size, 5, none⟩ = some (.bool b) := hp.cellv 5 rfl
  have q6 : w1.cell? ⟨w.heap.size, 6, none⟩ = some (.slice A2 n2 c2) := hp.cellv 6 rfl
  have p0 : w1.cell? ⟨w.heap.size + 1, 0, none⟩ = some (.slice A1' n1' c1') := hp'.cellv 0 rfl
  have p1 : w1.cell? ⟨w.heap.size + 1, 1, none⟩ = some (.int .i64 o') := hp'.cellv 1 rfl
  have p2 : w1.cell? ⟨w.heap.size + 1, 2, none⟩ = some (.slice A' n' c') := hp'.cellv 2 rfl
  have p3 : w1.cell? ⟨w.heap.size + 1, 3, none⟩ = some (.int .u32 h') := hp'.cellv 3 rfl
  have p4 : w1.cell? ⟨w.heap.size + 1, 4, none⟩ = some (.int .i64 m') := hp'.cellv 4 rfl
  have p5 : w1.cell? ⟨w.heap.size + 1, 5, none⟩ = some (.bool b') := hp'.cellv 5 rfl
  have p6 : w1.cell? ⟨w.heap.size + 1, 6, none⟩ = some (.slice A2' n2' c2') := hp'.cellv 6 rfl
  have ql := hp.lt
  have pl := hp'.lt
  have hE1 := same3_any w1 (fun b => b < w1.heap.size) (fun b => b < w1.heap.size) A1 n1 c1 l1 A1' n1' c1' l1' u1.s1 u1'.s1 (fun _ h => h) (fun _ h => h) z1
  have hE2 := fun (w2 : World) (hb : Below w1.heap.size w1 w2) => same3_any w2 (fun b => b < w2.heap.size) (fun b => b < w2.heap.size) A2 n2 c2 l2 A2' n2' c2' l2' (u1.nx hb).s2 (u1'.nx hb).s2 (fun _ h => h) (fun _ h => h) z2
  cases d1 : decide (l1 = l1')
  · have e := Lib.hid (show sameU l1 l2 o zs h m b l1' l2' o' zs' h' m' b' = false by unfold sameU; rw [d1]; rfl)
    rw [d1] at hE1
    replace d1 := Lib.hid d1
    go_wp2_with (go_at_call 34; refine hE1.mono ?_; rintro e w2 ⟨rfl, hb2⟩)
    go_ret
    exact ⟨ret_bool e.out.symm, hB.trans (hb2.mono hz)⟩
  rw [d1] at hE1
  have k1 : (decide (l1 = l1')) = true := d1
  replace k1 := Lib.hid k1
  replace d1 := Lib.hid d1
  cases d2 : decide (l2 = l2')
  · have e := Lib.hid (show sameU l1 l2 o zs h m b l1' l2' o' zs' h' m' b' = false by unfold sameU; rw [k1.out, d2]; rfl)
    rw [d2] at hE2
    replace d2 := Lib.hid d2
    go_wp2_with (go_at_call 34; first
      | (with_reducible refine hE1.mono ?_; rintro e w2 ⟨rfl, hb2⟩; replace hp := hp.below hb2 hp.lt; replace hp' := hp'.below hb2 hp'.lt; clear q0 q1 q2 q3 q4 q5 q6 ql p0 p1 p2 p3 p4 p5 p6 pl; have q0 : w2.cell? ⟨w.heap.size, 0, none⟩ = some (.slice A1 n1 c1) := hp.cellv 0 rfl; have q1 : w2.cell? ⟨w.heap.size, 1, none⟩ = some (.int .i64 o) := hp.cellv 1 rfl; have q2 : w2.cell? ⟨w.heap.size, 2, none⟩ = some (.slice A n c) := hp.cellv 2 rfl; have q3 : w2.cell? ⟨w.heap.size, 3, none⟩ = some (.int .u32 h) := hp.cellv 3 rfl; have q4 : w2.cell? ⟨w.heap.size, 4, none⟩ = some (.int .i64 m) := hp.cellv 4 rfl; have q5 : w2.cell? ⟨w.heap.size, 5, none⟩ = some (.bool b) := hp.cellv 5 rfl; have q6 : w2.cell? ⟨w.heap.size, 6, none⟩ = some (.slice A2 n2 c2) := hp.cellv 6 rfl; have p0 : w2.cell? ⟨w.heap.size + 1, 0, none⟩ = some (.slice A1' n1' c1') := hp'.cellv 0 rfl; have p1 : w2.cell? ⟨w.heap.size + 1, 1, none⟩ = some (.int .i64 o') := hp'.cellv 1 rfl; have p2 : w2.cell? ⟨w.heap.size + 1, 2, none⟩ = some (.slice A' n' c') := hp'.cellv 2 rfl; have p3 : w2.cell? ⟨w.heap.size + 1, 3, none⟩ = some (.int .u32 h') := hp'.cellv 3 rfl; have p4 : w2.cell? ⟨w.heap.size + 1, 4, none⟩ = some (.int .i64 m') := hp'.cellv 4 rfl; have p5 : w2.cell? ⟨w.heap.size + 1, 5, none⟩ = some (.bool b') := hp'.cellv 5 rfl; have p6 : w2.cell? ⟨w.heap.size + 1, 6, none⟩ = some (.slice A2' n2' c2') := hp'.cellv 6 rfl; have ql := hp.lt; have pl := hp'.lt)
      | (with_reducible refine (hE2 _ hb2).mono ?_; rintro e w3 ⟨rfl, hb3⟩))
    go_ret
    exact ⟨ret_bool e.out.symm, hB.trans ((hb2.trans (hb3.mono hb2.size)).mono hz)⟩
  rw [d2] at hE2
  have e := Lib.hid (show sameU l1 l2 o zs h m b l1' l2' o' zs' h' m' b' = sameA o zs h m b o' zs' h' m' b' by unfold sameU; rw [k1.out, d2]; rfl)
  replace d2 := Lib.hid d2
  go_wp2_with (first
    | (go_at_call 34; first
      | (with_reducible refine hE1.mono ?_; rintro e w2 ⟨rfl, hb2⟩; replace hp := hp.below hb2 hp.lt; replace hp' := hp'.below hb2 hp'.lt; clear q0 q1 q2 q3 q4 q5 q6 ql p0 p1 p2 p3 p4 p5 p6 pl; have q0 : w2.cell? ⟨w.heap.size, 0, none⟩ = some (.slice A1 n1 c1) := hp.cellv 0 rfl; have q1 : w2.cell? ⟨w.heap.size, 1, none⟩ = some (.int .i64 o) := hp.cellv 1 rfl; have q2 : w2.cell? ⟨w.heap.size, 2, none⟩ = some (.slice A n c) := hp.cellv 2 rfl; have q3 : w2.cell? ⟨w.heap.size, 3, none⟩ = some (.int .u32 h) := hp.cellv 3 rfl; have q4 : w2.cell? ⟨w.heap.size, 4, none⟩ = some (.int .i64 m) := hp.cellv 4 rfl; have q5 : w2.cell? ⟨w.heap.size, 5, none⟩ = some (.bool b) := hp.cellv 5 rfl; have q6 : w2.cell? ⟨w.heap.size, 6, none⟩ = some (.slice A2 n2 c2) := hp.cellv 6 rfl; have p0 : w2.cell? ⟨w.heap.size + 1, 0, none⟩ = some (.slice A1' n1' c1') := hp'.cellv 0 rfl; have p1 : w2.cell? ⟨w.heap.size + 1, 1, none⟩ = some (.int .i64 o') := hp'.cellv 1 rfl; have p2 : w2.cell? ⟨w.heap.size + 1, 2, none⟩ = some (.slice A' n' c') := hp'.cellv 2 rfl; have p3 : w2.cell? ⟨w.heap.size + 1, 3, none⟩ = some (.int .u32 h') := hp'.cellv 3 rfl; have p4 : w2.cell? ⟨w.heap.size + 1, 4, none⟩ = some (.int .i64 m') := hp'.cellv 4 rfl; have p5 : w2.cell? ⟨w.heap.size + 1, 5, none⟩ = some (.bool b') := hp'.cellv 5 rfl; have p6 : w2.cell? ⟨w.heap.size + 1, 6, none⟩ = some (.slice A2' n2' c2') := hp'.cellv 6 rfl; have ql := hp.lt; have pl := hp'.lt)
      | (with_reducible refine (hE2 _ hb2).mono ?_; rintro e w3 ⟨rfl, hb3⟩; have hb3b := hb2.trans (hb3.mono hb2.size); replace hp := hp.below hb3 hp.lt; replace hp' := hp'.below hb3 hp'.lt; clear q0 q1 q2 q3 q4 q5 q6 ql p0 p1 p2 p3 p4 p5 p6 pl; have q0 : w3.cell? ⟨w.heap.size, 0, none⟩ = some (.slice A1 n1 c1) := hp.cellv 0 rfl; have q1 : w3.cell? ⟨w.heap.size, 1, none⟩ = some (.int .i64 o) := hp.cellv 1 rfl; have q2 : w3.cell? ⟨w.heap.size, 2, none⟩ = some (.slice A n c) := hp.cellv 2 rfl; have q3 : w3.cell? ⟨w.heap.size, 3, none⟩ = some (.int .u32 h) := hp.cellv 3 rfl; have q4 : w3.cell? ⟨w.heap.size, 4, none⟩ = some (.int .i64 m) := hp.cellv 4 rfl; have q5 : w3.cell? ⟨w.heap.size, 5, none⟩ = some (.bool b) := hp.cellv 5 rfl; have q6 : w3.cell? ⟨w.heap.size, 6, none⟩ = some (.slice A2 n2 c2) := hp.cellv 6 rfl; have p0 : w3.cell? ⟨w.heap.size + 1, 0, none⟩ = some (.slice A1' n1' c1') := hp'.cellv 0 rfl; have p1 : w3.cell? ⟨w.heap.size + 1, 1, none⟩ = some (.int .i64 o') := hp'.cellv 1 rfl; have p2 : w3.cell? ⟨w.heap.size + 1, 2, none⟩ = some (.slice A' n' c') := hp'.cellv 2 rfl; have p3 : w3.cell? ⟨w.heap.size + 1, 3, none⟩ = some (.int .u32 h') := hp'.cellv 3 rfl; have p4 : w3.cell? ⟨w.heap.size + 1, 4, none⟩ = some (.int .i64 m') := hp'.cellv 4 rfl; have p5 : w3.cell? ⟨w.heap.size + 1, 5, none⟩ = some (.bool b') := hp'.cellv 5 rfl; have p6 : w3.cell? ⟨w.heap.size + 1, 6, none⟩ = some (.slice A2' n2' c2') := hp'.cellv 6 rfl; have ql := hp.lt; have pl := hp'.lt))
    | (go_at_call 29; refine (refSame7_any w3 o A n c zs h m b o' A' n' c' zs' h' m' b' (u1.nx hb3b).pa (u1'.nx hb3b).pa z3).mono ?_; rintro e w4 ⟨rfl, hb4⟩))
  go_ret
  exact ⟨ret_bool e.out.symm, hB.trans ((hb3b.trans (hb4.mono hb3b.size)).mono hz)⟩
set_option maxRecDepth 100000 in
set_option maxHeartbeats 4000000 in
theorem upEmpty_any (w : World) (A1 : Option Addr) (n1 c1 : Nat) (l1 : List (Int × Int)) (o : Int) (A : Option Addr) (n c : Nat) (zs : List Int) (h m : Int) (b : Bool) (A2 : Option Addr) (n2 c2 : Nat) (l2 : List (Int × Int)) (z1 : n1 ≤ 1000000) (z2 : n2 ≤ 1000000) :
    Calls Try.prog 18 #[.agg #[.slice A1 n1 c1, .int .i64 o, .slice A n c, .int .u32 h, .int .i64 m, .bool b, .slice A2 n2 c2]] w fun e w' => e = .returned (.bool (decide (n1 + n2 = 0))) ∧ Below w.heap.size w w' := by
  have hB := (Below.refl w.heap.size w).alloc (Nat.le_refl _) (.cells #[.slice A1 n1 c1, .int .i64 o, .slice A n c, .int .u32 h, .int .i64 m, .bool b, .slice A2 n2 c2] 28)
  have k1 := IntWalk.i64_in ((n1 : Int) + (n2 : Int)) (by omega)
  go_enter Try.func18, Try.ntmps18
  go_wp2_with fail
  go_ret
  exact ⟨ret_bool (by rw [Bool.eq_iff_iff]; simp; omega), hB⟩
end Go.Proofs.Ytfnclmacodchfaa

/- update: plain, light, lives. -/
namespace Go.Proofs.Ytfnclmacodchfaa
set_option linter.unusedVariables false
open Go Go.RowKit

def lightU (n1 n2 n : Nat) : Bool := decide (n1 ≤ 2000 ∧ n2 ≤ 2000 ∧ n ≤ 300)
set_option maxRecDepth 100000 in
set_option maxHeartbeats 4000000 in
theorem plain9_any (w : World) (A1 : Option Addr) (n1 c1 : Nat) (o : Int) (A : Option Addr) (n c : Nat) (h m : Int) (b : Bool) (A2 : Option Addr) (n2 c2 : Nat) :
    Calls Try.prog 9 #[.agg #[.slice A1 n1 c1, .int .i64 o, .slice A n c, .int .u32 h, .int .i64 m, .bool b, .slice A2 n2 c2]] w fun e w' => e = .returned (.agg #[.slice A1 n1 c1, .int .i64 o, .slice A n c, .int .u32 h, .int .i64 m, .bool b, .slice A2 n2 c2]) ∧ Below w.heap.size w w' := by
  have hi : (Try.prog.info? 33).map (·.size) = some 7 := by kernel_rfl
  have hB := ((Below.refl w.heap.size w).alloc (Nat.le_refl _) (.cells #[.slice A1 n1 c1, .int .i64 o, .slice A n c, .int .u32 h, .int .i64 m, .bool b, .slice A2 n2 c2] 28)).alloc (by simp) (.cells #[.slice none 0 0, .int .i64 0, .slice none 0 0, .int .u32 0, .int .i64 0, .bool false, .slice none 0 0] 33)
  have hp := (Blk.new w 28 #[.slice A1 n1 c1, .int .i64 o, .slice A n c, .int .u32 h, .int .i64 m, .bool b, .slice A2 n2 c2]).alloc (.cells #[.slice none 0 0, .int .i64 0, .slice none 0 0, .int .u32 0, .int .i64 0, .bool false, .slice none 0 0] 33)
  have hp' : Blk ((w.alloc (.cells #[.slice A1 n1 c1, .int .i64 o, .slice A n c, .int .u32 h, .int .i64 m, .bool b, .slice A2 n2 c2] 28)).alloc (.cells #[.slice none 0 0, .int .i64 0, .slice none 0 0, .int .u32 0, .int .i64 0, .bool false, .slice none 0 0] 33)) (w.heap.size + 1) 33 #[.slice none 0 0, .int .i64 0, .slice none 0 0, .int .u32 0, .int .i64 0, .bool false, .slice none 0 0] := by
    have := Blk.new (w.alloc (.cells #[.slice A1 n1 c1, .int .i64 o, .slice A n c, .int .u32 h, .int .i64 m, .bool b, .slice A2 n2 c2] 28)) 33 #[.slice none 0 0, .int .i64 0, .slice none 0 0, .int .u32 0, .int .i64 0, .bool false, .slice none 0 0]
    simpa using this
  go_enter Try.func9, Try.ntmps9
  go_upto_region 1 with (fail)
  generalize (w.alloc (.cells #[.slice A1 n1 c1, .int .i64 o, .slice A n c, .int .u32 h, .int .i64 m, .bool b, .slice A2 n2 c2] 28)).alloc (.cells #[.slice none 0 0, .int .i64 0, .slice none 0 0, .int .u32 0, .int .i64 0, .bool false, .slice none 0 0] 33) = w1 at *
  have hz := hB.size
  have q0 : w1.cell? ⟨w.heap.size, 0, none⟩ = some (.slice A1 n1 c1) := hp.cellv 0 rfl
  have q1 : w1.cell? ⟨w.heap.size, 1, none⟩ = some (.int .i64 o) := hp.cellv 1 rfl
  have q2 : w1.cell? ⟨w.heap.size, 2, none⟩ = some (.slice A n c) := hp.cellv 2 rfl
  have q3 : w1.cell? ⟨w.heap.size, 3, none⟩ = some (.int .u32 h) := hp.cellv 3 rfl
  have q4 : w1.cell? ⟨w.heap.size, 4, none⟩ = some (.int .i64 m) := hp.cellv 4 rfl
  have q5 : w1.cell? ⟨w.heap.size, 5, none⟩ = some (.bool b) := hp.cellv 5 rfl
  have q6 : w1.cell? ⟨w.heap.size, 6, none⟩ = some (.slice A2 n2 c2) := hp.cellv 6 rfl
  have ql := hp.lt
  go_wp2_with (refine wpList_store_blk rfl hp' 33 (.tmp 2) (.tmp 9) rfl rfl rfl rfl hi (by simp [Value.oneCell']) ?_; intro w9 hr9 hg9)
  refine bodyPost_ret (results_c rfl _ rfl (load_blk hr9 Try.underlying33 rfl hi)) rfl ?_
  exact ⟨rfl, below_own hB hg9 hB.size (by omega)⟩
set_option maxRecDepth 100000 in
set_option maxHeartbeats 4000000 in
theorem light9_any (w : World) (A1 : Option Addr) (n1 c1 : Nat) (o : Int) (A : Option Addr) (n c : Nat) (h m : Int) (b : Bool) (A2 : Option Addr) (n2 c2 : Nat) :
    Calls Try.prog 7 #[.agg #[.slice A1 n1 c1, .int .i64 o, .slice A n c, .int .u32 h, .int .i64 m, .bool b, .slice A2 n2 c2]] w fun e w' => e = .returned (.bool (lightU n1 n2 n)) ∧ Below w.heap.size w w' := by
  have hB := (Below.refl w.heap.size w).alloc (Nat.le_refl _) (.cells #[.slice A1 n1 c1, .int .i64 o, .slice A n c, .int .u32 h, .int .i64 m, .bool b, .slice A2 n2 c2] 28)
  go_enter Try.func7, Try.ntmps7
  by_cases h1 : n1 ≤ 2000
  rotate_left
  · have k1 : ¬ ((n1 : Int) ≤ 2000) := by omega
    have e := Lib.hid (show false = lightU n1 n2 n by unfold lightU; symm; rw [decide_eq_false_iff_not]; omega)
    go_wp2_with fail
    go_ret
    exact ⟨ret_bool e.out, hB⟩
  have k1 : (n1 : Int) ≤ 2000 := by omega
  by_cases h2 : n2 ≤ 2000
  rotate_left
  · have k2 : ¬ ((n2 : Int) ≤ 2000) := by omega
    have e := Lib.hid (show false = lightU n1 n2 n by unfold lightU; symm; rw [decide_eq_false_iff_not]; omega)
    go_wp2_with fail
    go_ret
    exact ⟨ret_bool e.out, hB⟩
  have k2 : (n2 : Int) ≤ 2000 := by omega
  by_cases h3 : n ≤ 300
  rotate_left
  · have k3 : ¬ ((n : Int) ≤ 300) := by omega
    have e := Lib.hid (show false = lightU n1 n2 n by unfold lightU; symm; rw [decide_eq_false_iff_not]; omega)
    go_wp2_with fail
    go_ret
    exact ⟨ret_bool e.out, hB⟩
  have k3 : (n : Int) ≤ 300 := by omega
  have e := Lib.hid (show true = lightU n1 n2 n by unfold lightU; symm; rw [decide_eq_true_eq]; omega)
  go_wp2_with fail
  go_ret
  exact ⟨ret_bool e.out, hB⟩
theorem lives9_bytes : upB [] [] 0 [] 0 0 false = [0, 0, 0, 0] := by decide
theorem UpR.none_ (w : World) : UpR w none 0 [] none 0 [] 0 none 0 [] := ⟨⟨rfl, by simp, fun h => absurd h (by omega)⟩, ⟨rfl, by simp, fun h => absurd h (by omega)⟩, Nums.zero w, by omega, by omega⟩
set_option maxRecDepth 100000 in
theorem lives9_any (w : World) : Calls Try.prog 8 #[] w fun e w' => e = .returned (.bool true) ∧ Below w.heap.size w w' := by
  go_enter Try.func8, Try.ntmps8
  go_wp2_with fail
  refine (upBytes_any w none 0 0 [] 0 none 0 0 [] 0 0 false none 0 0 [] (UpR.none_ w) (by omega) (by omega) (by omega)).mono ?_
  rintro e w1 ⟨v1, rfl, own1, hB⟩
  rw [lives9_bytes, show ([0, 0, 0, 0] : List UInt8).length = 4 from rfl] at own1
  have hs := own1.str
  rw [show strB [0, 0, 0, 0] = ⟨#[0, 0, 0, 0]⟩ from rfl] at hs
  obtain ⟨A1, c1, rfl, _, _, _⟩ := own1.any
  go_wp2_with fail
  go_ret
  exact ⟨rfl, hB⟩
end Go.Proofs.Ytfnclmacodchfaa

/- update: UpdateReads, the walk. -/
namespace Go.Proofs.Ytfnclmacodchfaa
set_option linter.unusedVariables false
open Go Go.RowKit

theorem faultC_refl (a s : Int) (d : List UInt8) : faultC a s d a s d = true := by simp [faultC]
theorem innF_len (f : St → List Int → Option (List Int)) (hf : ∀ s l r, l.length ≤ 16 → f s l = some r → r.length ≤ 16) : ∀ (m : Nat) (s : St) (l r : List Int), l.length ≤ 16 → innF f m s l = some r → r.length ≤ 16
  | 0, s, l, r, hl, h => hf s l r hl h
  | m + 1, s, l, r, hl, h => by
    unfold innF at h
    split at h
    · cases h
    · rename_i h1
      exact innF_len f hf m _ _ r (by simp; omega) h
theorem pathF_len : ∀ (n : Nat) (s : St) (l r : List Int), l.length ≤ 16 → pathF n s l = some r → r.length ≤ 16
  | 0, s, l, r, hl, h => by unfold pathF at h; cases h; exact hl
  | n + 1, s, l, r, hl, h => by
    unfold pathF at h
    split at h
    · split at h
      · cases h
      · exact innF_len (pathF n) (fun s l r hl h => pathF_len n s l r hl h) _ _ _ r hl h
    · cases h; exact hl
theorem takeS_len {a a' : AttV} {f t : Int} {v : List UInt8} (h : takeS a f t v = .ok a') (hl : a.zs.length ≤ 16) : a'.zs.length ≤ 16 := by
  unfold takeS at h
  repeat' split at h
  all_goals first | (cases h; exact hl) | (cases h; done) | skip
  rename_i zs hp
  cases h
  exact pathF_len _ _ _ _ (by simp) hp
theorem parseG_len : ∀ (ds : List RawD) (ts : List Int) (a a' : AttV), parseG ds ts a = .ok a' → a.zs.length ≤ 16 → a'.zs.length ≤ 16
  | [], ts, a, a', h, hl => by
    unfold parseG at h
    repeat' split at h
    all_goals first | (cases h; exact hl) | (cases h; done)
  | d :: ds, ts, a, a', h, hl => by
    unfold parseG at h
    split at h
    · cases h
    · split at h
      · cases h
      · rename_i b hb
        exact parseG_len ds _ b a' h (takeS_len hb hl)
def HBd (a : AttV) : Prop := 0 ≤ a.h ∧ a.h ≤ 4294967295
theorem takeS_h {a a' : AttV} {f t : Int} {v : List UInt8} (h : takeS a f t v = .ok a') (hl : HBd a) : HBd a' := by
  unfold takeS at h
  repeat' split at h
  all_goals first | (cases h; exact hl) | (cases h; done) | skip
  cases h
  exact ⟨getN_lo _ _, getN_4 _ _ (Nat.le_refl _)⟩
theorem parseG_h : ∀ (ds : List RawD) (ts : List Int) (a a' : AttV), parseG ds ts a = .ok a' → HBd a → HBd a'
  | [], ts, a, a', h, hl => by
    unfold parseG at h
    repeat' split at h
    all_goals first | (cases h; exact hl) | (cases h; done)
  | d :: ds, ts, a, a', h, hl => by
    unfold parseG at h
    split at h
    · cases h
    · split at h
      · cases h
      · rename_i b hb
        exact parseG_h ds _ b a' h (takeS_h hb hl)
theorem att0_h : HBd att0 := ⟨by decide, by decide⟩
theorem parseA_ok {l : List UInt8} {a : AttV} (h : parseA l = .ok a) : a.zs.length ≤ 16 ∧ HBd a := by
  unfold parseA at h
  split at h
  · cases h
  · exact ⟨parseG_len _ _ _ _ h (by simp [att0]), parseG_h _ _ _ _ h att0_h⟩
/-- what Parse answers, by parts. -/
def uL1 : Except (Int × List UInt8) UpD → List (Int × Int) | .error _ => [] | .ok d => d.1
def uAt : Except (Int × List UInt8) UpD → AttV | .error _ => att0 | .ok d => d.2.1
def uL2 : Except (Int × List UInt8) UpD → List (Int × Int) | .error _ => [] | .ok d => d.2.2
def uC : Except (Int × List UInt8) UpD → Int | .error _ => 3 | .ok _ => 0
def uS : Except (Int × List UInt8) UpD → Int | .error x => x.1 | .ok _ => 0
def uD : Except (Int × List UInt8) UpD → List UInt8 | .error x => x.2 | .ok _ => []
theorem parseU_bds (l : List UInt8) : (uL1 (parseU l)).length ≤ l.length ∧ (uL2 (parseU l)).length ≤ l.length ∧ (uAt (parseU l)).zs.length ≤ 16 ∧ HBd (uAt (parseU l)) := by
  have hz : (att0.zs.length ≤ 16) ∧ HBd att0 := ⟨by simp [att0], att0_h⟩
  have he : ∀ x, parseU l = .error x → (uL1 (parseU l)).length ≤ l.length ∧ (uL2 (parseU l)).length ≤ l.length ∧ (uAt (parseU l)).zs.length ≤ 16 ∧ HBd (uAt (parseU l)) := fun x e => by
    rw [e]; exact ⟨Nat.zero_le _, Nat.zero_le _, hz⟩
  have hlens := up_lens l
  have ho : ∀ l1 a l2, parseP (upG l) = some l1 → parseP (upR l) = some l2 → (a.zs.length ≤ 16 ∧ HBd a) → parseU l = .ok (l1, a, l2) → (uL1 (parseU l)).length ≤ l.length ∧ (uL2 (parseU l)).length ≤ l.length ∧ (uAt (parseU l)).zs.length ≤ 16 ∧ HBd (uAt (parseU l)) := fun l1 a l2 h1 h2 h3 e => by
    rw [e]
    have := parseP_len h1
    have := parseP_len h2
    refine ⟨?_, ?_, h3⟩
    · show l1.length ≤ _; omega
    · show l2.length ≤ _; omega
  by_cases h : (upS3 l).e = 0
  rotate_left
  · exact he _ (parseU_short h)
  cases h1 : parseP (upG l) with
  | none => exact he _ (parseU_gone h h1)
  | some l1 =>
    cases h2 : parseP (upR l) with
    | none => exact he _ (parseU_rest h h1 h2)
    | some l2 =>
      by_cases h3 : (upA l).length = 0 ∧ l2.length = 0
      · exact ho _ _ _ h1 h2 hz (parseU_nil h h1 h2 h3)
      cases hA : parseA (upA l) with
      | error x =>
        by_cases h4 : 0 < l2.length ∨ x.1 ≠ 3
        · exact he _ (parseU_err h h1 h2 h3 hA h4)
        · exact ho _ _ _ h1 h2 hz (parseU_mis h h1 h2 h3 hA h4)
      | ok a =>
        by_cases h4 : 0 < l2.length
        · exact ho _ _ _ h1 h2 (parseA_ok hA) (parseU_att h h1 h2 h3 hA h4)
        · exact ho _ _ _ h1 h2 hz (parseU_ign h h1 h2 h3 hA h4)
theorem ParseUP.all {w w' : World} {e : Ending} {r : Except (Int × List UInt8) UpD} (hp : ParseUP w w' e r) (hb : HBd (uAt r)) :
    ∃ A1 c1 A n c A2 c2 Af cf, e = .returned (.tuple #[.agg #[.slice A1 (uL1 r).length c1, .int .i64 (uAt r).o, .slice A n c, .int .u32 (uAt r).h, .int .i64 (uAt r).m, .bool (uAt r).b, .slice A2 (uL2 r).length c2], .agg #[.int .i64 (uC r), .int .i64 (uS r), .slice Af (uD r).length cf]]) ∧
      UpR w' A1 (uL1 r).length (uL1 r) A n (uAt r).zs (uAt r).h A2 (uL2 r).length (uL2 r) ∧ Byt w' w'.heap.size Af (uD r).length (uD r) := by
  cases r with
  | error x =>
    obtain ⟨v, rfl, own⟩ := hp
    obtain ⟨Af, cf, rfl, _, _, byf, _⟩ := own.any2
    exact ⟨none, 0, none, 0, 0, none, 0, Af, cf, rfl, ⟨⟨rfl, by simp [uL1], fun h => absurd h (by simp [uL1])⟩, ⟨rfl, by simp [uL2], fun h => absurd h (by simp [uL2])⟩, ⟨rfl, by simp [uAt, att0], fun h => absurd h (by omega)⟩, hb.1, hb.2⟩, byf⟩
  | ok d =>
    obtain ⟨A1, c1, A, n, c, A2, c2, rfl, s1, s2, s3⟩ := hp
    exact ⟨A1, c1, A, n, c, A2, c2, none, 0, rfl, ⟨s1, s3, s2.nums, hb.1, hb.2⟩, Byt.none_⟩
theorem sameU_refl (l1 l2 : List (Int × Int)) (o : Int) (zs : List Int) (h m : Int) (b : Bool) : sameU l1 l2 o zs h m b l1 l2 o zs h m b = true := by
  unfold sameU sameA intsEq; simp
set_option maxRecDepth 100000 in
set_option maxHeartbeats 16000000 in
theorem reads9_walk (A : Option Addr) (n c : Nat) (l : List UInt8) (w : World) (_ : n ≤ c) (_ : c ≤ maxLen) (h : Byt w w.heap.size A n l) :
    Calls Try.prog 4 #[.slice A n c] w fun e w' => e = .returned (.bool true) ∧ Below w.heap.size w w' := by
  have hB := Below.refl w.heap.size w
  have hl := Lib.hid h.1
  go_enter Try.func4, Try.ntmps4
  by_cases hn : n ≤ 5000
  rotate_left
  · have k1 : (5000 : Int) < n := by omega
    go_wp2_with (go_at_call 8; refine (lives9_any w).mono ?_; rintro e w2 ⟨rfl, hb⟩)
    go_ret
    exact ⟨rfl, hb⟩
  have k1 : ¬ ((5000 : Int) < n) := by omega
  have hbd := parseU_bds l
  rw [hl.out] at hbd
  obtain ⟨r, hr0⟩ : ∃ r, r = parseU l := ⟨_, rfl⟩
  rw [← hr0] at hbd
  have hr := Lib.hid hr0
  clear hr0
  go_wp2_with fail
  refine (upParse_any w A n c l h (by omega)).mono ?_
  rintro e w1 ⟨hb, hP⟩
  rw [← hr.out] at hP
  obtain ⟨A11, c11, A1, n1, c1, A21, c21, Af1, cf1, rfl, u1, by1⟩ := hP.all hbd.2.2.2
  clear hP
  have hn1 : n1 ≤ 100000 := by rw [← u1.pa.1]; have := hbd.2.2.1; omega
  replace h := h.nx hb
  replace hB := hB.trans (hb.mono hB.size)
  have hb := ((Below.refl w1.heap.size w1).alloc (Nat.le_refl _) (.cells #[.slice A11 (uL1 r).length c11, .int .i64 (uAt r).o, .slice A1 n1 c1, .int .u32 (uAt r).h, .int .i64 (uAt r).m, .bool (uAt r).b, .slice A21 (uL2 r).length c21] 28)).alloc (by simp) (.cells #[.int .i64 (uC r), .int .i64 (uS r), .slice Af1 (uD r).length cf1] 44)
  have hu1 := (Blk.new w1 28 #[.slice A11 (uL1 r).length c11, .int .i64 (uAt r).o, .slice A1 n1 c1, .int .u32 (uAt r).h, .int .i64 (uAt r).m, .bool (uAt r).b, .slice A21 (uL2 r).length c21]).alloc (.cells #[.int .i64 (uC r), .int .i64 (uS r), .slice Af1 (uD r).length cf1] 44)
  have hf1 : Blk ((w1.alloc (.cells #[.slice A11 (uL1 r).length c11, .int .i64 (uAt r).o, .slice A1 n1 c1, .int .u32 (uAt r).h, .int .i64 (uAt r).m, .bool (uAt r).b, .slice A21 (uL2 r).length c21] 28)).alloc (.cells #[.int .i64 (uC r), .int .i64 (uS r), .slice Af1 (uD r).length cf1] 44)) (w1.heap.size + 1) 44 #[.int .i64 (uC r), .int .i64 (uS r), .slice Af1 (uD r).length cf1] := by
    have := Blk.new (w1.alloc (.cells #[.slice A11 (uL1 r).length c11, .int .i64 (uAt r).o, .slice A1 n1 c1, .int .u32 (uAt r).h, .int .i64 (uAt r).m, .bool (uAt r).b, .slice A21 (uL2 r).length c21] 28)) 44 #[.int .i64 (uC r), .int .i64 (uS r), .slice Af1 (uD r).length cf1]
    simpa using this
  replace h := h.nx hb
  replace hB := hB.trans (hb.mono hB.size)
  replace u1 := u1.nx hb
  replace by1 := by1.nx hb
  go_upto_region 4 with (fail)
  generalize (w1.alloc (.cells #[.slice A11 (uL1 r).length c11, .int .i64 (uAt r).o, .slice A1 n1 c1, .int .u32 (uAt r).h, .int .i64 (uAt r).m, .bool (uAt r).b, .slice A21 (uL2 r).length c21] 28)).alloc (.cells #[.int .i64 (uC r), .int .i64 (uS r), .slice Af1 (uD r).length cf1] 44) = w2 at *
  clear hb
  go_wp2_with fail
  refine (refUpParse_any w2 A n c l h (by omega)).mono ?_
  rintro e w3 ⟨hb, hP⟩
  rw [← hr.out] at hP
  obtain ⟨A12, c12, A2, n2, c2, A22, c22, Af2, cf2, rfl, u2, by2⟩ := hP.all hbd.2.2.2
  clear hP
  have hn2 : n2 ≤ 100000 := by rw [← u2.pa.1]; have := hbd.2.2.1; omega
  replace hu1 := hu1.below hb hu1.lt
  replace hf1 := hf1.below hb hf1.lt
  replace u1 := u1.nx hb
  replace by1 := by1.nx hb
  replace h := h.nx hb
  replace hB := hB.trans (hb.mono hB.size)
  have hb := ((Below.refl w3.heap.size w3).alloc (Nat.le_refl _) (.cells #[.slice A12 (uL1 r).length c12, .int .i64 (uAt r).o, .slice A2 n2 c2, .int .u32 (uAt r).h, .int .i64 (uAt r).m, .bool (uAt r).b, .slice A22 (uL2 r).length c22] 33)).alloc (by simp) (.cells #[.int .i64 (uC r), .int .i64 (uS r), .slice Af2 (uD r).length cf2] 44)
  have hu2 := (Blk.new w3 33 #[.slice A12 (uL1 r).length c12, .int .i64 (uAt r).o, .slice A2 n2 c2, .int .u32 (uAt r).h, .int .i64 (uAt r).m, .bool (uAt r).b, .slice A22 (uL2 r).length c22]).alloc (.cells #[.int .i64 (uC r), .int .i64 (uS r), .slice Af2 (uD r).length cf2] 44)
  have hf2 : Blk ((w3.alloc (.cells #[.slice A12 (uL1 r).length c12, .int .i64 (uAt r).o, .slice A2 n2 c2, .int .u32 (uAt r).h, .int .i64 (uAt r).m, .bool (uAt r).b, .slice A22 (uL2 r).length c22] 33)).alloc (.cells #[.int .i64 (uC r), .int .i64 (uS r), .slice Af2 (uD r).length cf2] 44)) (w3.heap.size + 1) 44 #[.int .i64 (uC r), .int .i64 (uS r), .slice Af2 (uD r).length cf2] := by
    have := Blk.new (w3.alloc (.cells #[.slice A12 (uL1 r).length c12, .int .i64 (uAt r).o, .slice A2 n2 c2, .int .u32 (uAt r).h, .int .i64 (uAt r).m, .bool (uAt r).b, .slice A22 (uL2 r).length c22] 33)) 44 #[.int .i64 (uC r), .int .i64 (uS r), .slice Af2 (uD r).length cf2]
    simpa using this
  replace hu1 := hu1.below hb hu1.lt
  replace hf1 := hf1.below hb hf1.lt
  replace u1 := u1.nx hb
  replace by1 := by1.nx hb
  replace h := h.nx hb
  replace hB := hB.trans (hb.mono hB.size)
  replace u2 := u2.nx hb
  replace by2 := by2.nx hb
  go_upto_region 5 with (fail)
  generalize (w3.alloc (.cells #[.slice A12 (uL1 r).length c12, .int .i64 (uAt r).o, .slice A2 n2 c2, .int .u32 (uAt r).h, .int .i64 (uAt r).m, .bool (uAt r).b, .slice A22 (uL2 r).length c22] 33)).alloc (.cells #[.int .i64 (uC r), .int .i64 (uS r), .slice Af2 (uD r).length cf2] 44) = w4 at *
  clear hb
  -- region 5: 0 1C 2 3C 4 5 6 7C 8 9 10C 11 12
  try refine wp_region_noPanic ?_
  refine wp_region_lat (by kernel_rfl) ?_
  (refine lat_now 0 (by rfl) ?_ (by kernel_rfl) (fun _ _ _ h => h) ?_ ?_; rotate_left; (focus (intro wq hSw; refine exec_load_blk (x := .tmp 3) ?_ ?_ (hu1.below hSw hu1.lt) _ Try.underlying28 rfl (by kernel_rfl) <;> rfl)); simp only [Act.put, List.setIfInBounds_toArray, List.set_cons_zero, List.set_cons_succ])
  (refine lat_now 2 (by rfl) ?_ (by kernel_rfl) (fun _ _ _ h => h) ?_ ?_; rotate_left; (focus (intro wq hSw; refine exec_load_blk (x := .tmp 5) ?_ ?_ (hu2.below hSw hu2.lt) _ Try.underlying33 rfl (by kernel_rfl) <;> rfl)); simp only [Act.put, List.setIfInBounds_toArray, List.set_cons_zero, List.set_cons_succ])
  (refine lat_late 1 (by rfl) (.agg #[.slice A11 (uL1 r).length c11, .int .i64 (uAt r).o, .slice A1 n1 c1, .int .u32 (uAt r).h, .int .i64 (uAt r).m, .bool (uAt r).b, .slice A21 (uL2 r).length c21]) (by kernel_rfl) (fun _ _ _ h => h) (fun wq hSw => ⟨_, _, ?_, plain9_any wq A11 _ c11 (uAt r).o A1 n1 c1 (uAt r).h (uAt r).m (uAt r).b A21 _ c21⟩) ?_; focus (go_simp; try with_reducible rfl; done); try simp only [Act.put, List.setIfInBounds_toArray, List.set_cons_zero, List.set_cons_succ])
  (refine lat_late 3 (by rfl) (.bool true) (by kernel_rfl) (fun _ _ _ h => h) (fun wq hSw => ⟨_, _, ?_, by have q9 := refUpSame_any wq A11 _ c11 (uL1 r) (uAt r).o A1 n1 c1 (uAt r).zs (uAt r).h (uAt r).m (uAt r).b A21 _ c21 (uL2 r) A12 _ c12 (uL1 r) (uAt r).o A2 n2 c2 (uAt r).zs (uAt r).h (uAt r).m (uAt r).b A22 _ c22 (uL2 r) (u1.nx hSw) (u2.nx hSw) (by omega) (by omega) hn1; rw [sameU_refl] at q9; exact q9⟩) ?_; focus (go_simp; try with_reducible rfl; done); try simp only [Act.put, List.setIfInBounds_toArray, List.set_cons_zero, List.set_cons_succ])
  (refine lat_now 4 (by rfl) ?_ (by kernel_rfl) (fun _ _ _ h => h) ?_ ?_; rotate_left; (focus (intro wq hSw; have hrd : ∀ b o, b < w4.heap.size → wq.cell? ⟨b, o, none⟩ = w4.cell? ⟨b, o, none⟩ := (fun b o h => Below.cell hSw (p := ⟨b, o, none⟩) h); go_simp; try with_reducible rfl; done)); try simp only [Act.put, List.setIfInBounds_toArray, List.set_cons_zero, List.set_cons_succ])
  (refine lat_now 5 (by rfl) ?_ (by kernel_rfl) (fun _ _ _ h => h) ?_ ?_; rotate_left; (focus (intro wq hSw; refine exec_load_blk (x := .tmp 4) ?_ ?_ (hf1.below hSw hf1.lt) _ Try.underlying44 rfl (by kernel_rfl) <;> rfl)); simp only [Act.put, List.setIfInBounds_toArray, List.set_cons_zero, List.set_cons_succ])
  (refine lat_now 6 (by rfl) ?_ (by kernel_rfl) (fun _ _ _ h => h) ?_ ?_; rotate_left; (focus (intro wq hSw; refine exec_load_blk (x := .tmp 6) ?_ ?_ (hf2.below hSw hf2.lt) _ Try.underlying44 rfl (by kernel_rfl) <;> rfl)); simp only [Act.put, List.setIfInBounds_toArray, List.set_cons_zero, List.set_cons_succ])
  (refine lat_late 7 (by rfl) (.bool true) (by kernel_rfl) (fun _ _ _ h => h) (fun wq hSw => ⟨_, _, ?_, by have q9 := faults7_any wq (uC r) (uS r) Af1 (uD r).length cf1 (uD r) (uC r) (uS r) Af2 (uD r).length cf2 (uD r) wq.heap.size wq.heap.size (by1.nx hSw) (by2.nx hSw) (Nat.le_refl _) (Nat.le_refl _); rw [faultC_refl] at q9; exact q9⟩) ?_; focus (go_simp; try with_reducible rfl; done); try simp only [Act.put, List.setIfInBounds_toArray, List.set_cons_zero, List.set_cons_succ])
  (refine lat_now 8 (by rfl) ?_ (by kernel_rfl) (fun _ _ _ h => h) ?_ ?_; rotate_left; (focus (intro wq hSw; have hrd : ∀ b o, b < w4.heap.size → wq.cell? ⟨b, o, none⟩ = w4.cell? ⟨b, o, none⟩ := (fun b o h => Below.cell hSw (p := ⟨b, o, none⟩) h); go_simp; try with_reducible rfl; done)); try simp only [Act.put, List.setIfInBounds_toArray, List.set_cons_zero, List.set_cons_succ])
  (refine lat_now 9 (by rfl) ?_ (by kernel_rfl) (fun _ _ _ h => h) ?_ ?_; rotate_left; (focus (intro wq hSw; have hrd : ∀ b o, b < w4.heap.size → wq.cell? ⟨b, o, none⟩ = w4.cell? ⟨b, o, none⟩ := (fun b o h => Below.cell hSw (p := ⟨b, o, none⟩) h); go_simp; try with_reducible rfl; done)); try simp only [Act.put, List.setIfInBounds_toArray, List.set_cons_zero, List.set_cons_succ])
  (refine lat_late 10 (by rfl) (.bool true) (by kernel_rfl) (fun _ _ _ h => h) (fun wq hSw => ⟨_, _, ?_, lives9_any wq⟩) ?_; focus (go_simp; try with_reducible rfl; done); try simp only [Act.put, List.setIfInBounds_toArray, List.set_cons_zero, List.set_cons_succ])
  (refine lat_now 11 (by rfl) ?_ (by kernel_rfl) (fun _ _ _ h => h) ?_ ?_; rotate_left; (focus (intro wq hSw; have hrd : ∀ b o, b < w4.heap.size → wq.cell? ⟨b, o, none⟩ = w4.cell? ⟨b, o, none⟩ := (fun b o h => Below.cell hSw (p := ⟨b, o, none⟩) h); go_simp; try with_reducible rfl; done)); try simp only [Act.put, List.setIfInBounds_toArray, List.set_cons_zero, List.set_cons_succ])
  (refine lat_now 12 (by rfl) ?_ (by kernel_rfl) (fun _ _ _ h => h) ?_ ?_; rotate_left; (focus (intro wq hSw; have hrd : ∀ b o, b < w4.heap.size → wq.cell? ⟨b, o, none⟩ = w4.cell? ⟨b, o, none⟩ := (fun b o h => Below.cell hSw (p := ⟨b, o, none⟩) h); go_simp; try with_reducible rfl; done)); try simp only [Act.put, List.setIfInBounds_toArray, List.set_cons_zero, List.set_cons_succ])
  refine lat_done (by kernel_rfl) (fun wz hz => ?_) _
  try refine NoPanic.normal ?_
  go_wp2_with fail
  go_ret
  exact ⟨rfl, hB.trans (hz.mono hB.size)⟩
end Go.Proofs.Ytfnclmacodchfaa

/-
  What is proved: fairway/fairwaylaw09.UpdateReads answers true for every input, and each argument reads afterwards as it read before. Conditions: those of the given statement Rows.UpdateReadsSaid, no others.
-/
namespace Go.Proofs.Ytfnclmacodchfaa.lawUpdateReads
open Go.ChangeShapes Go.WideShapes Go.ChangeAt Go.RowKit
set_option linter.unusedVariables false

theorem own : ownKnob Try.prog.godebug = none := by kernel_rfl
theorem laidOut : laidOutB Try.prog = true := by kernel_rfl

set_option maxRecDepth 100000 in
theorem lifted (os : Os) (started : os.Started) (H : Type) (enc : TypeId × Value → H) :
    ReturnsInHanded {} Try.checked os 4 .any (Rows.updateReadsSpec.pre6 enc Try.prog Try.f4 Rows.updateReadsRow.domain false) (Rows.updateReadsSpec.post enc Try.prog Try.f4 false true false false) := by
  refine returnsInHanded_of_change (C := Try.checked) own started (by kernel_rfl) Try.func4
    (ChangeSpec.witness6 (enc := enc) (C := Try.checked) false ⟨#[], #[.slice none 0 0], []⟩ 8 (by kernel_rfl) (by kernel_rfl) (by kernel_rfl) (by kernel_rfl)) ?_
  intro W base args ds gs before hval0 hW hcnd _
  have hval : ∀ (j : Nat) t v, Try.f4.params[j]? = some t → args[j]? = some v → Value.okWide Try.prog W .any base t v := hval0
  have hW' := hW
  obtain ⟨p, q, hA0, hV, rfl, hfz, hnd⟩ := hW
  have hA : DataW.TrodAll enc Try.prog W 0 (fun _ => true) true Try.f4.params.toList args.toList ds p := hA0
  rw [Try.params4] at hA hval
  obtain ⟨v0, vs0, d0, ds0, p0, q0, hargs, rfl, rfl, k0, r0⟩ := trodAll_cons hA
  obtain ⟨rfl, rfl, rfl⟩ := trodAll_nil r0
  obtain rfl : args = #[v0] := by cases args; simp_all
  obtain ⟨rfl, rfl⟩ := trodVars_none hV
  have lt0 : ∀ x ∈ p0, x.block < W.heap.size := by obtain ⟨m, hm⟩ := k0; exact DataW.trod_lt m _ _ _ hm
  obtain ⟨a0, n0, c0, l0, rfl, hl0, hm0, w0⟩ := open_byt Try.underlying36 Try.underlying5 (by kernel_rfl) (hval 0 36 v0 rfl rfl) k0
  clear hA0 hval0
  refine (reads9_walk a0 n0 c0 l0 W hl0 hm0 w0).mono fun e W' ⟨he, bel⟩ => ?_
  subst he
  exact ⟨_, rfl, _, _, _, [], _, [], hW', trodAll_mk1 (shut_bool Try.underlying4 _), (trodAll_cons_mk (Below.trod laidOut (by kernel_rfl) (of_decide_eq_true (by kernel_rfl)) k0 bel lt0) trodAll_mk0), rfl, bel.frame _, fun h => by cases h⟩

theorem proved : Rows.UpdateReadsSaid :=
  OpenClaim.holds_of_wide 4 Try.f4 rfl rfl rfl rfl rfl rfl rfl ⟨rfl, rfl, rfl, rfl, rfl⟩ rfl rfl rfl rfl rfl (by kernel_rfl) Try.func4 (by kernel_rfl)
    (of_decide_eq_true (by kernel_rfl)) (by unfold Func.isWrapper; first | (rw [if_pos (by decide +kernel)]; kernel_rfl) | (rw [if_neg (by decide +kernel)]; exact ⟨rfl, rfl⟩))
    (fun os started H enc _ => lifted os started H enc)
#print axioms proved
end Go.Proofs.Ytfnclmacodchfaa.lawUpdateReads
