/- attr: the document's Good. -/
import Derived.Test.YtfnclmacodchfaaPfG
import Derived.Test.YtfnclmacodchfaaAuB
namespace Go.Proofs.Ytfnclmacodchfaa
set_option linter.unusedVariables false
open Go.RowKit

theorem nat_all (zs : List Int) (k : Nat) (hk : k < zs.length) (h : (zs.take k).all asB = true) (hz : asB (nAt zs k) = true) : (zs.take (k + 1)).all asB = true := by
  rw [List.take_succ_eq_append_getElem hk, List.all_append, h]
  have e : nAt zs k = zs[k] := by unfold nAt; simp [List.getElem?_eq_getElem hk]
  rw [← e]
  simp [hz]
theorem nat_noall (zs : List Int) (k : Nat) (hk : k < zs.length) (hz : asB (nAt zs k) = false) : zs.all asB = false := by
  have e : nAt zs k = zs[k] := by unfold nAt; simp [List.getElem?_eq_getElem hk]
  rw [List.all_eq_false]
  exact ⟨_, List.getElem_mem hk, by rw [← e, hz]; simp⟩
set_option maxRecDepth 100000 in
set_option maxHeartbeats 4000000 in
theorem refGood7_any (w : World) (o : Int) (A : Option Addr) (n c : Nat) (zs : List Int) (h m : Int) (b : Bool) (hN : Nums .i64 w w.heap.size A n zs) (h0 : 0 ≤ h) (h1 : h ≤ 4294967295) (hn : n ≤ 100000) :
    Calls Try.prog 30 #[.agg #[.int .i64 o, .slice A n c, .int .u32 h, .int .i64 m, .bool b]] w fun e w' => e = .returned (.bool (goodA o zs h m b)) ∧ Below w.heap.size w w' := by
  have hl := Lib.hid hN.1
  have hB := (Below.refl w.heap.size w).alloc (Nat.le_refl _) (.cells #[.int .i64 o, .slice A n c, .int .u32 h, .int .i64 m, .bool b] 31)
  have hN2 := (hN.below hB).more hB.size
  have hp := Blk.new w 31 #[.int .i64 o, .slice A n c, .int .u32 h, .int .i64 m, .bool b]
  go_enter Try.func30, Try.ntmps30
  go_upto_region 1 with (fail)
  generalize w.alloc (.cells #[.int .i64 o, .slice A n c, .int .u32 h, .int .i64 m, .bool b] 31) = w1 at *
  have hsz := hB.size
  have ltp := hp.lt
  have p0 : w1.cell? ⟨w.heap.size, 0, none⟩ = some (.int .i64 o) := hp.cellv 0 rfl
  have p1 : w1.cell? ⟨w.heap.size, 1, none⟩ = some (.slice A n c) := hp.cellv 1 rfl
  have p2 : w1.cell? ⟨w.heap.size, 2, none⟩ = some (.int .u32 h) := hp.cellv 2 rfl
  have p3 : w1.cell? ⟨w.heap.size, 3, none⟩ = some (.int .i64 m) := hp.cellv 3 rfl
  have p4 : w1.cell? ⟨w.heap.size, 4, none⟩ = some (.bool b) := hp.cellv 4 rfl
  go_wp2_with fail
  go_loopw [4, 8] (fun _ i wr => ∃ k : Nat, k ≤ n ∧ i = .int .i64 (k : Int) ∧ (zs.take k).all asB = true ∧ wr = w1) (fun _ i _ => n - (intOf i).toNat)
  case atStart => exact ⟨0, Nat.zero_le _, rfl, rfl, rfl⟩
  case round =>
  obtain ⟨k, hk, rfl, hkey, rfl⟩ := hrel
  replace hkey := Lib.hid hkey
  by_cases hlt : k < n
  · obtain ⟨bb, off, rfl, hb1, hc⟩ := hN2.2.2 (by omega)
    have c0 := hc k hlt
    have hki : (k : Int) < n := by omega
    clear hc
    have hlk : k < zs.length := by rw [hl.out]; exact hlt
    replace hlk := Lib.hid hlk
    have nextk := Lib.hid (nat_all zs k hlk.out hkey.out)
    have nok := Lib.hid (nat_noall zs k hlk.out)
    generalize nAt zs k = z at *
    by_cases z1 : z < 1
    · have e : zs.all asB = false := nok.out (by unfold asB; simp; omega)
      have eg : goodA o zs h m b = false := by unfold goodA; rw [e]; simp
      replace eg := Lib.hid eg
      clear e
      have d1 : decide (z < 1) = true := by simpa using z1
      go_wp2_with fail
      go_ret
      exact ⟨ret_bool eg.out.symm, hB⟩
    have d1 : decide (z < 1) = false := by simpa using z1
    by_cases z2 : 65535 < z
    · have e : zs.all asB = false := nok.out (by unfold asB; simp; omega)
      have eg : goodA o zs h m b = false := by unfold goodA; rw [e]; simp
      replace eg := Lib.hid eg
      clear e
      have d2 : decide (65535 < z) = true := by simpa using z2
      go_wp2_with fail
      go_ret
      exact ⟨ret_bool eg.out.symm, hB⟩
    have d2 : decide (65535 < z) = false := by simpa using z2
    have e := Lib.hid (nextk.out (by unfold asB; simp; omega))
    go_wp2_with fail
    exact ⟨⟨k + 1, by omega, by go_num, e.out, trivial⟩, by simp [intOf]; omega⟩
  obtain rfl : k = n := by omega
  have e : zs.all asB = true := by
    have := hkey.out
    rw [List.take_of_length_le (by rw [hl.out]; omega)] at this
    exact this
  have hx : goodA o zs h m b = ((decide (0 ≤ o) && decide (o ≤ 2)) && hopV h && decide (zs.length ≤ 16) && medB m b) := by unfold goodA; rw [e, Bool.and_true]
  rw [hl.out] at hx
  replace hx := Lib.hid hx
  clear e
  by_cases o1 : o < 0
  · have e : goodA o zs h m b = false := by rw [hx.out]; simp; omega
    replace e := Lib.hid e
    have d1 : decide (o < 0) = true := by simpa using o1
    go_wp2_with fail
    go_ret
    exact ⟨ret_bool e.out.symm, hB⟩
  have d1 : decide (o < 0) = false := by simpa using o1
  by_cases o2 : 2 < o
  · have e : goodA o zs h m b = false := by rw [hx.out]; simp; omega
    replace e := Lib.hid e
    have d2 : decide (2 < o) = true := by simpa using o2
    go_wp2_with fail
    go_ret
    exact ⟨ret_bool e.out.symm, hB⟩
  have d2 : decide (2 < o) = false := by simpa using o2
  have eo : (decide (0 ≤ o) && decide (o ≤ 2)) = true := by simp; omega
  replace hx := hx.out
  rw [eo] at hx
  replace hx := Lib.hid hx
  clear eo
  by_cases n16 : 16 < k
  · have d3 : decide ((16 : Int) < k) = true := by simp; omega
    have e : goodA o zs h m b = false := by rw [hx.out]; simp; omega
    replace e := Lib.hid e
    go_wp2_with fail
    go_ret
    exact ⟨ret_bool e.out.symm, hB⟩
  have d3 : decide ((16 : Int) < k) = false := by simp; omega
  have e16 : decide (k ≤ 16) = true := by simp; omega
  replace hx := hx.out
  rw [e16] at hx
  replace hx := Lib.hid hx
  go_wp2_with fail
  refine (refHop_any h _ h0 h1).mono ?_
  rintro e w' ⟨rfl, rfl⟩
  cases hh : hopV h
  · have e : goodA o zs h m b = false := by rw [hx.out, hh]; rfl
    replace e := Lib.hid e
    go_wp2_with fail
    go_ret
    exact ⟨ret_bool e.out.symm, hB⟩
  replace hx := hx.out
  rw [hh] at hx
  replace hx := Lib.hid hx
  by_cases m1 : m < 0
  · have e : goodA o zs h m b = false := by rw [hx.out]; unfold medB; cases b <;> simp <;> omega
    replace e := Lib.hid e
    have d4 : decide (m < 0) = true := by simpa using m1
    go_wp2_with fail
    go_ret
    exact ⟨ret_bool e.out.symm, hB⟩
  have d4 : decide (m < 0) = false := by simpa using m1
  by_cases m2 : 4294967295 < m
  · have e : goodA o zs h m b = false := by rw [hx.out]; unfold medB; cases b <;> simp <;> omega
    replace e := Lib.hid e
    have d5 : decide (4294967295 < m) = true := by simpa using m2
    go_wp2_with fail
    go_ret
    exact ⟨ret_bool e.out.symm, hB⟩
  have d5 : decide (4294967295 < m) = false := by simpa using m2
  cases b
  · have e : goodA o zs h m false = (m == 0) := by rw [hx.out]; unfold medB; simp
    replace e := Lib.hid e
    go_wp2_with fail
    all_goals (go_ret; exact ⟨ret_bool (by rw [e.out]; try simp_all), hB⟩)
  · have e : goodA o zs h m true = true := by rw [hx.out]; unfold medB; (try simp) <;> (try omega)
    replace e := Lib.hid e
    go_wp2_with fail
    go_ret
    exact ⟨ret_bool e.out.symm, hB⟩
end Go.Proofs.Ytfnclmacodchfaa
