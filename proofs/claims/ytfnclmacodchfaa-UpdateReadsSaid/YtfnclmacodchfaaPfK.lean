/- the document's Bytes and All of prefixes. -/
import Derived.Test.YtfnclmacodchfaaPfJ
namespace Go.Proofs.Ytfnclmacodchfaa
set_option linter.unusedVariables false
open Go.RowKit

theorem own_less {w : World} {base base' n : Nat} {v : Value} {l : List UInt8} (h : OwnB w base v n l) (hb : base' ≤ base) : OwnB w base' v n l :=
  ⟨h.1, h.2.imp id fun ⟨g, cap, cur, e, q, r⟩ => ⟨g, cap, cur, e, Nat.le_trans hb q, r⟩⟩
theorem oct_shift (k : Nat) (hk : k < 4) (a : Int) (h0 : 0 ≤ a) : a / 2 ^ (24 - 8 * k) = a / 2 ^ (8 * (4 - 1 - k)) := by
  rw [show 8 * (4 - 1 - k) = 24 - 8 * k by omega]
set_option maxRecDepth 100000 in
set_option maxHeartbeats 2000000 in
theorem refBytes3_any (w : World) (a n : Int) (h0 : 0 ≤ a) (h1 : a ≤ 4294967295) :
    Calls Try.prog 51 #[.agg #[.int .u32 a, .int .i64 n]] w fun e w' => ∃ v, e = .returned v ∧ OwnB w' w.heap.size v (pfB a n).length (pfB a n) ∧ Below w.heap.size w w' := by
  have hk32 := clampN_le n
  have hcb := cut_bd a (clampN n) h0
  have hc := fun (w : World) => refCanon_any w a n h0 h1
  have hpl := pfB_len a n
  have hpe : pfB a n = byOf (clampN n) :: (be (cutA a (clampN n)) 4).take (octN (clampN n)) := rfl
  rw [hpl]
  rw [hpe]
  clear hpl hpe
  unfold pfC at hc
  generalize cutA a (clampN n) = a' at *
  generalize clampN n = k at *
  have ho := octN_le k hk32
  have hod : octN k = (k + 7) / 8 := rfl
  have hq : Int.tdiv ((k : Int) + 7) 8 = (octN k : Int) := by
    rw [Int.tdiv_eq_ediv_of_nonneg (by omega), hod]; omega
  clear hod
  generalize octN k = o at *
  have hB := (Below.refl w.heap.size w).alloc (Nat.le_refl _) (.cells #[.int .u32 a, .int .i64 n] 61)
  go_enter Try.func51, Try.ntmps51
  go_wp2_with fail
  refine (hc _).mono ?_
  rintro e w2 ⟨rfl, hb⟩
  replace hB := hB.trans (hb.mono hB.size)
  clear hb
  have hB3 := hB.alloc hB.size (.cells #[.int .u32 a', .int .i64 k] 61)
  have hp := Blk.new w2 61 #[.int .u32 a', .int .i64 k]
  go_upto_region 2 with (fail)
  generalize w2.alloc (.cells #[.int .u32 a', .int .i64 k] 61) = w3 at *
  have ltq := hp.lt
  have q0 : w3.cell? ⟨w2.heap.size, 0, none⟩ = some (.int .u32 a') := hp.cellv 0 rfl
  have q1 : w3.cell? ⟨w2.heap.size, 1, none⟩ = some (.int .i64 k) := hp.cellv 1 rfl
  have kw : IntKind.u8.wrap (k : Int) = (k : Int) % 256 := IntKind.wrap_u8 _
  have own1 := own_one w3 k
  have hB34 := (Below.refl w3.heap.size w3).alloc (Nat.le_refl _) (.cells #[.int .u8 ((k : Int) % 256)] 5)
  have hp4 := hp.alloc (.cells #[.int .u8 ((k : Int) % 256)] 5)
  have hz3 := hB3.size
  go_upto_region 4 with (fail)
  generalize w3.alloc (.cells #[.int .u8 ((k : Int) % 256)] 5) = w4 at *
  go_loopw [4, 5] (fun v i wr => ∃ j : Nat, j ≤ o ∧ i = .int .i64 (j : Int) ∧ OwnB wr w3.heap.size v (1 + j) (byOf k :: (be a' 4).take j) ∧ Below w3.heap.size w3 wr) (fun _ i _ => o - (intOf i).toNat)
  case atStart => exact ⟨0, Nat.zero_le _, rfl, own1, hB34⟩
  case round =>
  obtain ⟨j, hj, rfl, hown, hBr⟩ := hrel
  have r0 : wr.cell? ⟨w2.heap.size, 0, none⟩ = some (.int .u32 a') := (hBr.cell (p := ⟨w2.heap.size, 0, none⟩) ltq).trans q0
  have r1 : wr.cell? ⟨w2.heap.size, 1, none⟩ = some (.int .i64 k) := (hBr.cell (p := ⟨w2.heap.size, 1, none⟩) ltq).trans q1
  have ltr : w2.heap.size < wr.heap.size := Nat.lt_of_lt_of_le ltq hBr.size
  by_cases hlt : j < o
  · have hjo : (j : Int) < o := by omega
    have own1' := own_one wr (a' / 2 ^ (24 - 8 * j))
    have hbx := (Below.refl wr.heap.size wr).alloc (Nat.le_refl _) (.cells #[.int .u8 (a' / 2 ^ (24 - 8 * j) % 256)] 5)
    have hown2 := hown.below hbx
    have by2 := own1'.byt
    have hbt := be_take a' 4 j (by omega)
    rw [show 8 * (4 - 1 - j) = 24 - 8 * j by omega] at hbt
    replace hbt := Lib.hid hbt
    have hzx := hbx.size
    have hzr := hBr.size
    go_wp2_with (at_builtin; refine wpList_app _ rfl (.tmp 20) (.tmp 29) rfl w3.heap.size _ _ _ rfl hown2 _ _ 1 1 _ rfl by2 (by omega) (by omega) ?_; intro v3 wx own3 hg3 hd3; clear hd3; have hb3 := hown2.below_app hg3 (by omega))
    refine ⟨⟨j + 1, by omega, by go_num, ?_, hBr.trans ((hbx.mono hzr).trans hb3)⟩, by simp [intOf]; omega⟩
    rw [← hbt.out]
    exact own3
  · obtain rfl : j = o := by omega
    go_wp2_with fail
    go_ret
    exact ⟨_, rfl, own_less hown hB3.size, hB3.trans (hBr.mono hB3.size)⟩
set_option maxRecDepth 100000 in
set_option maxHeartbeats 2000000 in
theorem refAll3_any (w : World) (A : Option Addr) (n c : Nat) (ps : List (Int × Int)) (h : Seen pfK w (fun b => b < w.heap.size) A n ps) (hn : n ≤ 1000000) :
    Calls Try.prog 22 #[.slice A n c] w fun e w' => ∃ v, e = .returned v ∧ OwnB w' w.heap.size v (pfAll ps).length (pfAll ps) ∧ Below w.heap.size w w' := by
  have hnil := OwnB.nil w w.heap.size
  have hl := Lib.hid h.1
  go_enter Try.func22, Try.ntmps22
  go_wp2_with fail
  go_loopw [3, 5, 8] (fun v _ i wr => ∃ k : Nat, k ≤ n ∧ i = .int .i64 (k : Int) ∧ OwnB wr w.heap.size v (pfAll (ps.take k)).length (pfAll (ps.take k)) ∧ Below w.heap.size w wr) (fun _ _ i _ => n - (intOf i).toNat)
  case atStart => exact ⟨0, Nat.zero_le _, rfl, hnil, Below.refl _ _⟩
  case round =>
  obtain ⟨k, hk, rfl, hown, hB⟩ := hrel
  have hzB := hB.size
  by_cases hlt : k < n
  · have hS := (h.below hB fun _ hb => hb).more (S' := fun b => b < wr.heap.size) fun b hb => Nat.lt_of_lt_of_le hb hzB
    obtain ⟨b, off, p, rfl, hb, hr, p0, p1, c0, c1⟩ := pf_cells hS hlt
    have hbx := (Below.refl wr.heap.size wr).alloc (Nat.le_refl _) (.cells #[.int .u32 p.1, .int .i64 p.2] 61)
    have hki : (k : Int) < n := by omega
    have hj := pfAll_take ps k p hr
    have hjl := pfAll_len (ps.take k)
    have hjl2 : (pfB p.1 p.2).length ≤ 5 := by
      rw [pfB_len]
      have := octN_le (clampN p.2) (clampN_le p.2)
      omega
    rw [List.length_take, Nat.min_eq_left (by have := hl.out; omega)] at hjl
    replace hj := Lib.hid hj
    go_wp2_with fail
    refine (refBytes3_any _ p.1 p.2 p0 p1).mono ?_
    rintro e w2 ⟨v2, rfl, own2, hb2⟩
    obtain ⟨A2, c2', rfl, _, by2, _⟩ := own2.any
    replace hbx := hbx.trans (hb2.mono hbx.size)
    have hown2 := hown.below hbx
    have hzx := hbx.size
    go_wp2_with (at_builtin; refine wpList_app _ rfl (.tmp 12) (.tmp 14) rfl w.heap.size _ _ _ rfl hown2 _ _ _ _ _ rfl by2 (by omega) (by omega) ?_; intro v3 w3 own3 hg3 hd3; clear hd3; have hb3 := hown2.below_app hg3 (by omega))
    refine ⟨⟨k + 1, by omega, by go_num, ?_, hB.trans ((hbx.mono hzB).trans hb3)⟩, by simp [intOf]; omega⟩
    rw [hj.out, List.length_append]
    exact own3
  · obtain rfl : k = n := by omega
    go_wp2_with fail
    go_ret
    rw [List.take_of_length_le (by have := hl.out; omega)] at hown
    exact ⟨_, rfl, hown, hB⟩
end Go.Proofs.Ytfnclmacodchfaa
