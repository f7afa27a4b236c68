/- attr: Join, and the document's; light, plain. -/
import Derived.Test.YtfnclmacodchfaaAtB
namespace Go.Proofs.Ytfnclmacodchfaa
set_option linter.unusedVariables false
open Go.RowKit

set_option maxHeartbeats 2000000 in
theorem attrJoin_any (w : World) (A : Option Addr) (n c : Nat) (rs : List RawV) (h : Seen rawK w (fun b => b < w.heap.size) A n rs) (hn : n ≤ 1000) :
    Calls Try.prog 55 #[.slice A n c] w fun e w' => ∃ v, e = .returned v ∧ OwnB w' w.heap.size v (joinL rs).length (joinL rs) ∧ Below w.heap.size w w' := by
  have hnil := OwnB.nil w w.heap.size
  have hl := Lib.hid h.1
  go_enter Try.func55, Try.ntmps55
  go_wp2_with fail
  go_loopw [3, 5, 8] (fun v _ i wr => ∃ k : Nat, k ≤ n ∧ i = .int .i64 (k : Int) ∧ OwnB wr w.heap.size v (joinL (rs.take k)).length (joinL (rs.take k)) ∧ Below w.heap.size w wr) (fun _ _ i _ => n - (intOf i).toNat)
  case atStart => exact ⟨0, Nat.zero_le _, rfl, hnil, Below.refl _ _⟩
  case round =>
  obtain ⟨k, hk, rfl, hown, hB⟩ := hrel
  have hzB := hB.size
  by_cases hlt : k < n
  · have hS := (h.below hB fun _ hb => hb).more (S' := fun b => b < wr.heap.size) fun b hb => Nat.lt_of_lt_of_le hb hzB
    obtain ⟨b, off, r, rfl, hb, hr, hok, c0, c1, c2⟩ := raw_cells hS hlt
    have hbx := (Below.refl wr.heap.size wr).alloc (Nat.le_refl _) (.cells #[.int .i64 r.f, .int .i64 r.t, .slice r.A r.n r.c] 90)
    have hok2 := rawK.more (rawK.keep (w' := wr.alloc (.cells #[.int .i64 r.f, .int .i64 r.t, .slice r.A r.n r.c] 90)) hok fun p hp => hbx.cell hp) (S' := fun b => b < (wr.alloc (.cells #[.int .i64 r.f, .int .i64 r.t, .slice r.A r.n r.c] 90)).heap.size) fun b hb => Nat.lt_of_lt_of_le hb hbx.size
    have hki : (k : Int) < n := by omega
    have hj := joinL_take rs k r hr
    have hjl := joinL_len (rs.take k)
    have hjl2 := oneL_len r.f r.t r.v
    rw [List.length_take, Nat.min_eq_left (by have := hl.out; omega)] at hjl
    replace hj := Lib.hid hj
    go_wp2_with fail
    refine (rawBytes_any _ r hok2).mono ?_
    rintro e w2 ⟨v2, rfl, own2, hb2⟩
    obtain ⟨A2, c2', rfl, _, by2, _⟩ := own2.any
    replace hbx := hbx.trans (hb2.mono hbx.size)
    have hown2 := hown.below hbx
    have hzx := hbx.size
    go_wp2_with (at_builtin; refine wpList_app _ rfl (.tmp 12) (.tmp 14) rfl w.heap.size _ _ _ rfl hown2 _ _ _ _ _ rfl by2 (by omega) (by omega) ?_; intro v3 w3 own3 hg3 hd3; clear hd3; have hb3 := hown2.below_app hg3 (by omega))
    refine ⟨⟨k + 1, by omega, by go_num, ?_, hB.trans ((hbx.mono hzB).trans hb3)⟩, by simp [intOf]; omega⟩
    rw [hj.out, List.length_append]
    exact own3
  · obtain rfl : k = n := by omega
    go_wp2_with fail
    go_ret
    rw [List.take_of_length_le (by have := hl.out; omega)] at hown
    exact ⟨_, rfl, hown, hB⟩
set_option maxHeartbeats 2000000 in
theorem refJoin_any (w : World) (A : Option Addr) (n c : Nat) (rs : List RawV) (h : Seen rawK w (fun b => b < w.heap.size) A n rs) (hn : n ≤ 1000) :
    Calls Try.prog 97 #[.slice A n c] w fun e w' => ∃ v, e = .returned v ∧ OwnB w' w.heap.size v (joinL rs).length (joinL rs) ∧ Below w.heap.size w w' := by
  have hnil := OwnB.nil w w.heap.size
  have hl := Lib.hid h.1
  go_enter Try.func97, Try.ntmps97
  go_wp2_with fail
  go_loopw [3, 5, 8] (fun v _ i wr => ∃ k : Nat, k ≤ n ∧ i = .int .i64 (k : Int) ∧ OwnB wr w.heap.size v (joinL (rs.take k)).length (joinL (rs.take k)) ∧ Below w.heap.size w wr) (fun _ _ i _ => n - (intOf i).toNat)
  case atStart => exact ⟨0, Nat.zero_le _, rfl, hnil, Below.refl _ _⟩
  case round =>
  obtain ⟨k, hk, rfl, hown, hB⟩ := hrel
  have hzB := hB.size
  by_cases hlt : k < n
  · have hS := (h.below hB fun _ hb => hb).more (S' := fun b => b < wr.heap.size) fun b hb => Nat.lt_of_lt_of_le hb hzB
    obtain ⟨b, off, r, rfl, hb, hr, hok, c0, c1, c2⟩ := raw_cells hS hlt
    have hbx := (Below.refl wr.heap.size wr).alloc (Nat.le_refl _) (.cells #[.int .i64 r.f, .int .i64 r.t, .slice r.A r.n r.c] 124)
    have hok2 := rawK.more (rawK.keep (w' := wr.alloc (.cells #[.int .i64 r.f, .int .i64 r.t, .slice r.A r.n r.c] 124)) hok fun p hp => hbx.cell hp) (S' := fun b => b < (wr.alloc (.cells #[.int .i64 r.f, .int .i64 r.t, .slice r.A r.n r.c] 124)).heap.size) fun b hb => Nat.lt_of_lt_of_le hb hbx.size
    have hki : (k : Int) < n := by omega
    have hj := joinL_take rs k r hr
    have hjl := joinL_len (rs.take k)
    have hjl2 := oneL_len r.f r.t r.v
    rw [List.length_take, Nat.min_eq_left (by have := hl.out; omega)] at hjl
    replace hj := Lib.hid hj
    go_wp2_with fail
    refine (refOne_any _ r hok2).mono ?_
    rintro e w2 ⟨v2, rfl, own2, hb2⟩
    obtain ⟨A2, c2', rfl, _, by2, _⟩ := own2.any
    replace hbx := hbx.trans (hb2.mono hbx.size)
    have hown2 := hown.below hbx
    have hzx := hbx.size
    go_wp2_with (at_builtin; refine wpList_app _ rfl (.tmp 12) (.tmp 14) rfl w.heap.size _ _ _ rfl hown2 _ _ _ _ _ rfl by2 (by omega) (by omega) ?_; intro v3 w3 own3 hg3 hd3; clear hd3; have hb3 := hown2.below_app hg3 (by omega))
    refine ⟨⟨k + 1, by omega, by go_num, ?_, hB.trans ((hbx.mono hzB).trans hb3)⟩, by simp [intOf]; omega⟩
    rw [hj.out, List.length_append]
    exact own3
  · obtain rfl : k = n := by omega
    go_wp2_with fail
    go_ret
    rw [List.take_of_length_le (by have := hl.out; omega)] at hown
    exact ⟨_, rfl, hown, hB⟩
end Go.Proofs.Ytfnclmacodchfaa
