/- attr: Join, and the document's; light, plain. -/
import Derived.Test.YtlpplclhjkbjbaaAtB
namespace Go.Proofs.Ytlpplclhjkbjbaa
set_option linter.unusedVariables false
open Go.RowKit

set_option maxHeartbeats 2000000 in
theorem attrJoin_any (w : World) (A : Option Addr) (n c : Nat) (rs : List RawV) (h : Seen rawK w (fun b => b < w.heap.size) A n rs) (hn : n ≤ 1000) :
    Calls Try.prog 16 #[.slice A n c] w fun e w' => ∃ v, e = .returned v ∧ OwnB w' w.heap.size v (joinL rs).length (joinL rs) ∧ Below w.heap.size w w' := by
  have hnil := OwnB.nil w w.heap.size
  have hl := Lib.hid h.1
  go_enter Try.func16, Try.ntmps16
  go_wp2_with fail
  go_loopw [3, 5, 8] (fun v _ i wr => ∃ k : Nat, k ≤ n ∧ i = .int .i64 (k : Int) ∧ OwnB wr w.heap.size v (joinL (rs.take k)).length (joinL (rs.take k)) ∧ Below w.heap.size w wr) (fun _ _ i _ => n - (intOf i).toNat)
  case atStart => exact ⟨0, Nat.zero_le _, rfl, hnil, Below.refl _ _⟩
  case round =>
  obtain ⟨k, hk, rfl, hown, hB⟩ := hrel
  have hzB := hB.size
  by_cases hlt : k < n
  · have hS := (h.below hB fun _ hb => hb).more (S' := fun b => b < wr.heap.size) fun b hb => Nat.lt_of_lt_of_le hb hzB
    obtain ⟨b, off, r, rfl, hb, hr, hok, c0, c1, c2⟩ := raw_cells hS hlt
    have hbx := (Below.refl wr.heap.size wr).alloc (Nat.le_refl _) (.cells #[.int .i64 r.f, .int .i64 r.t, .slice r.A r.n r.c] 101)
    have hok2 := rawK.more (rawK.keep (w' := wr.alloc (.cells #[.int .i64 r.f, .int .i64 r.t, .slice r.A r.n r.c] 101)) hok fun p hp => hbx.cell hp) (S' := fun b => b < (wr.alloc (.cells #[.int .i64 r.f, .int .i64 r.t, .slice r.A r.n r.c] 101)).heap.size) fun b hb => Nat.lt_of_lt_of_le hb hbx.size
    have hki : (k : Int) < n := by omega
    have hj := joinL_take rs k r hr
    have hjl := joinL_len (rs.take k)
    have hjl2 := oneL_len r.f r.t r.v
    rw [List.length_take, Nat.min_eq_left (by have := hl.out; omega)] at hjl
    replace hj := Lib.hid hj
    go_wp2_with fail
    refine (rawBytes_any _ r hok2).mono ?_
    rintro e w2 ⟨v2, rfl, own2, hb2⟩
    obtain ⟨A2, c2', rfl, _, by2, _⟩ := own2.any
    replace hbx := hbx.trans (hb2.mono hbx.size)
    have hown2 := hown.below hbx
    have hzx := hbx.size
    go_wp2_with (at_builtin; refine wpList_app _ rfl (.tmp 12) (.tmp 14) rfl w.heap.size _ _ _ rfl hown2 _ _ _ _ _ rfl by2 (by omega) (by omega) ?_; intro v3 w3 own3 hg3 hd3; clear hd3; have hb3 := hown2.below_app hg3 (by omega))
    refine ⟨⟨k + 1, by omega, by go_num, ?_, hB.trans ((hbx.mono hzB).trans hb3)⟩, by simp [intOf]; omega⟩
    rw [hj.out, List.length_append]
    exact own3
  · obtain rfl : k = n := by omega
    go_wp2_with fail
    go_ret
    rw [List.take_of_length_le (by have := hl.out; omega)] at hown
    exact ⟨_, rfl, hown, hB⟩
set_option maxHeartbeats 2000000 in
theorem refJoin_any (w : World) (A : Option Addr) (n c : Nat) (rs : List RawV) (h : Seen rawK w (fun b => b < w.heap.size) A n rs) (hn : n ≤ 1000) :
    Calls Try.prog 17 #[.slice A n c] w fun e w' => ∃ v, e = .returned v ∧ OwnB w' w.heap.size v (joinL rs).length (joinL rs) ∧ Below w.heap.size w w' := by
  have hnil := OwnB.nil w w.heap.size
  have hl := Lib.hid h.1
  go_enter Try.func17, Try.ntmps17
  go_wp2_with fail
  go_loopw [3, 5, 8] (fun v _ i wr => ∃ k : Nat, k ≤ n ∧ i = .int .i64 (k : Int) ∧ OwnB wr w.heap.size v (joinL (rs.take k)).length (joinL (rs.take k)) ∧ Below w.heap.size w wr) (fun _ _ i _ => n - (intOf i).toNat)
  case atStart => exact ⟨0, Nat.zero_le _, rfl, hnil, Below.refl _ _⟩
  case round =>
  obtain ⟨k, hk, rfl, hown, hB⟩ := hrel
  have hzB := hB.size
  by_cases hlt : k < n
  · have hS := (h.below hB fun _ hb => hb).more (S' := fun b => b < wr.heap.size) fun b hb => Nat.lt_of_lt_of_le hb hzB
    obtain ⟨b, off, r, rfl, hb, hr, hok, c0, c1, c2⟩ := raw_cells hS hlt
    have hbx := (Below.refl wr.heap.size wr).alloc (Nat.le_refl _) (.cells #[.int .i64 r.f, .int .i64 r.t, .slice r.A r.n r.c] 103)
    have hok2 := rawK.more (rawK.keep (w' := wr.alloc (.cells #[.int .i64 r.f, .int .i64 r.t, .slice r.A r.n r.c] 103)) hok fun p hp => hbx.cell hp) (S' := fun b => b < (wr.alloc (.cells #[.int .i64 r.f, .int .i64 r.t, .slice r.A r.n r.c] 103)).heap.size) fun b hb => Nat.lt_of_lt_of_le hb hbx.size
    have hki : (k : Int) < n := by omega
    have hj := joinL_take rs k r hr
    have hjl := joinL_len (rs.take k)
    have hjl2 := oneL_len r.f r.t r.v
    rw [List.length_take, Nat.min_eq_left (by have := hl.out; omega)] at hjl
    replace hj := Lib.hid hj
    go_wp2_with fail
    refine (refOne_any _ r hok2).mono ?_
    rintro e w2 ⟨v2, rfl, own2, hb2⟩
    obtain ⟨A2, c2', rfl, _, by2, _⟩ := own2.any
    replace hbx := hbx.trans (hb2.mono hbx.size)
    have hown2 := hown.below hbx
    have hzx := hbx.size
    go_wp2_with (at_builtin; refine wpList_app _ rfl (.tmp 12) (.tmp 14) rfl w.heap.size _ _ _ rfl hown2 _ _ _ _ _ rfl by2 (by omega) (by omega) ?_; intro v3 w3 own3 hg3 hd3; clear hd3; have hb3 := hown2.below_app hg3 (by omega))
    refine ⟨⟨k + 1, by omega, by go_num, ?_, hB.trans ((hbx.mono hzB).trans hb3)⟩, by simp [intOf]; omega⟩
    rw [hj.out, List.length_append]
    exact own3
  · obtain rfl : k = n := by omega
    go_wp2_with fail
    go_ret
    rw [List.take_of_length_le (by have := hl.out; omega)] at hown
    exact ⟨_, rfl, hown, hB⟩
theorem light7_any (w : World) (A : Option Addr) (n c : Nat) (rs : List RawV) (h : Seen rawK w (fun b => b < w.heap.size) A n rs) :
    Calls Try.prog 14 #[.slice A n c] w fun e w' => ∃ x, e = .returned (.bool x) ∧ (x = true → n ≤ 30) ∧ Below w.heap.size w w' := by
  have hl := Lib.hid h.1
  go_enter Try.func14, Try.ntmps14
  by_cases hbig : 30 < n
  · have i1 : (30 : Int) < n := by omega
    go_wp2_with fail
    go_ret
    exact ⟨false, rfl, by simp, Below.refl _ _⟩
  have i1 : (n : Int) ≤ 30 := by omega
  go_wp2_with fail
  go_loopw [3, 5, 11] (fun v _ i wr => ∃ k : Nat, k ≤ n ∧ i = .int .i64 (k : Int) ∧ (∃ z, v = .int .i64 z) ∧ Below w.heap.size w wr) (fun _ _ i _ => n - (intOf i).toNat)
  case atStart => exact ⟨0, Nat.zero_le _, rfl, ⟨_, rfl⟩, Below.refl _ _⟩
  case round =>
  obtain ⟨k, hk, rfl, ⟨z, rfl⟩, hB⟩ := hrel
  have hzB := hB.size
  by_cases hlt : k < n
  · have hS := (h.below hB fun _ hb => hb).more (S' := fun b => b < wr.heap.size) fun b hb => Nat.lt_of_lt_of_le hb hzB
    obtain ⟨b, off, r, rfl, hb, hr, hok, c0, c1, c2⟩ := raw_cells hS hlt
    have hbx := (Below.refl wr.heap.size wr).alloc (Nat.le_refl _) (.cells #[.int .i64 r.f, .int .i64 r.t, .slice r.A r.n r.c] 101)
    have hki : (k : Int) < n := by omega
    go_wp2_with fail
    · go_ret
      exact ⟨false, rfl, by simp, hB.trans (hbx.mono hzB)⟩
    · exact ⟨⟨k + 1, by omega, by go_num, ⟨_, rfl⟩, hB.trans (hbx.mono hzB)⟩, by simp [intOf]; omega⟩
  · obtain rfl : k = n := by omega
    go_wp2_with fail
    go_ret
    exact ⟨true, rfl, fun _ => by omega, hB⟩
set_option maxHeartbeats 2000000 in
theorem plain7_any (w : World) (A : Option Addr) (n c : Nat) (rs : List RawV) (h : Seen rawK w (fun b => b < w.heap.size) A n rs) (hn : n ≤ 100000) :
    Calls Try.prog 18 #[.slice A n c] w fun e w' => ∃ v, e = .returned v ∧ Rows rawK w' 0 w.heap.size 103 v rs ∧ Below w.heap.size w w' := by
  have hnil := Rows.nil (R := rawK) w 0 w.heap.size 103
  have hl := Lib.hid h.1
  go_enter Try.func18, Try.ntmps18
  go_wp2_with fail
  go_loopw [3, 5, 8] (fun v _ i wr => ∃ k : Nat, k ≤ n ∧ i = .int .i64 (k : Int) ∧ Rows rawK wr 0 w.heap.size 103 v (rs.take k) ∧ Below w.heap.size w wr) (fun _ _ i _ => n - (intOf i).toNat)
  case atStart => exact ⟨0, Nat.zero_le _, rfl, hnil, Below.refl _ _⟩
  case round =>
  obtain ⟨k, hk, rfl, hrow, hB⟩ := hrel
  have hzB := hB.size
  by_cases hlt : k < n
  · have hS := h.below hB fun _ hb => hb
    obtain ⟨b, off, r, rfl, hb, hr, hok, c0, c1, c2⟩ := raw_cells hS hlt
    have hbx := (Below.refl wr.heap.size wr).alloc (Nat.le_refl _) (.cells #[.int .i64 r.f, .int .i64 r.t, .slice r.A r.n r.c] 101)
    have hki : (k : Int) < n := by omega
    have hrow2 := (hrow.alloc (.cells #[.int .i64 r.f, .int .i64 r.t, .slice r.A r.n r.c] 101))
    have hok2 : rawK.ok (wr.alloc (.cells #[.int .i64 r.f, .int .i64 r.t, .slice r.A r.n r.c] 101)) (fun b => b < w.heap.size) r := rawK.keep hok fun p hp => hbx.cell (Nat.lt_of_lt_of_le hp hzB)
    have hqx := Blk.new wr 101 #[.int .i64 r.f, .int .i64 r.t, .slice r.A r.n r.c]
    generalize hx1 : wr.alloc (.cells #[.int .i64 r.f, .int .i64 r.t, .slice r.A r.n r.c] 101) = x1 at hbx hrow2 hok2 hqx
    have ltx := hqx.lt
    have e0 : x1.cell? ⟨wr.heap.size, 0, none⟩ = some (.int .i64 r.f) := hqx.cellv 0 rfl
    have e1 : x1.cell? ⟨wr.heap.size, 1, none⟩ = some (.int .i64 r.t) := hqx.cellv 1 rfl
    have e2 : x1.cell? ⟨wr.heap.size, 2, none⟩ = some (.slice r.A r.n r.c) := hqx.cellv 2 rfl
    have hzx := hbx.size
    have hone := seen_one x1 103 r #[.int .i64 r.f, .int .i64 r.t, .slice r.A r.n r.c] rfl hok2 (S' := fun b => b < x1.heap.size + 1) (fun b hb => by omega) (Nat.lt_succ_self _) (fun b hb => by omega)
    have hby := (Below.refl x1.heap.size x1).alloc (Nat.le_refl _) (.cells #[.int .i64 r.f, .int .i64 r.t, .slice r.A r.n r.c] 103)
    have hrow3 := hrow2.alloc (.cells #[.int .i64 r.f, .int .i64 r.t, .slice r.A r.n r.c] 103)
    have hok3 : rawK.ok (x1.alloc (.cells #[.int .i64 r.f, .int .i64 r.t, .slice r.A r.n r.c] 103)) (fun b => b < w.heap.size) r := rawK.keep hok2 fun p hp => hby.cell (by omega)
    have htl : (rs.take k).length = k := by rw [List.length_take]; have := hl.out; omega
    have hj : rs.take (k + 1) = rs.take k ++ [r] := by rw [List.take_add_one, hr]; rfl
    replace hj := Lib.hid hj
    replace htl := Lib.hid htl
    have hzy := hby.size
    have hok4 : ∀ e ∈ [r], rawK.ok (x1.alloc (.cells #[.int .i64 r.f, .int .i64 r.t, .slice r.A r.n r.c] 103)) (fun b => 0 ≤ b ∧ b < (x1.alloc (.cells #[.int .i64 r.f, .int .i64 r.t, .slice r.A r.n r.c] 103)).heap.size ∧ u3.ownBlock ≠ some b) e := fun e he => by
      obtain rfl : e = r := by simpa using he
      exact rawK.more hok3 fun b hb => ⟨Nat.zero_le _, by omega, fun e2 => by have := (hrow3.own b e2).1; omega⟩
    go_wp2_with (at_builtin; refine wpList_rows refRaw_ok rfl (.tmp 12) (.tmp 14) rfl hrow3 rfl rfl hone hok4 (by rw [htl.out]; unfold maxLen; omega) (by rw [htl.out]; omega) (by omega) ?_; intro v4 w4 hrow4 hg4; have hb4 := hrow3.below_app hg4 (by omega))
    refine ⟨⟨k + 1, by omega, by go_num, ?_, hB.trans (((hbx.trans (hby.mono hzx)).mono hzB).trans hb4)⟩, by simp [intOf]; omega⟩
    rw [hj.out]
    exact hrow4
  · obtain rfl : k = n := by omega
    go_wp2_with fail
    go_ret
    rw [List.take_of_length_le (by have := hl.out; omega)] at hrow
    exact ⟨_, rfl, hrow, hB⟩
end Go.Proofs.Ytlpplclhjkbjbaa
