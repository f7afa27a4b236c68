/- open: Hold, Same. -/
import Derived.Test.YtlpplclhjkbjbaaOpD
namespace Go.Proofs.Ytlpplclhjkbjbaa
set_option linter.unusedVariables false
open Go.RowKit

def holdV (a b : Int) : Int := if a = 0 ∨ b = 0 then 0 else if a < b then a else b
theorem hold_any (a b : Int) (w : World) : Calls Try.prog 39 #[.int .i64 a, .int .i64 b] w fun e w' => e = .returned (.int .i64 (holdV a b)) ∧ w = w' := by
  go_enter Try.func39, Try.ntmps39
  go_wp2_with fail
  all_goals go_ret
  all_goals (refine ⟨ret_int ?_, rfl⟩; unfold holdV; (try simp_all); try ((repeat' split) <;> omega))
theorem refHold_any (a b : Int) (w : World) : Calls Try.prog 40 #[.int .i64 a, .int .i64 b] w fun e w' => e = .returned (.int .i64 (holdV a b)) ∧ w = w' := by
  go_enter Try.func40, Try.ntmps40
  go_wp2_with fail
  all_goals go_ret
  all_goals (refine ⟨ret_int ?_, rfl⟩; unfold holdV; (try simp_all); try ((repeat' split) <;> omega))
theorem bytesEq_any (A A' : Option Addr) (n c n' c' : Nat) (l l' : List UInt8) (B B' : Nat) (w : World) (h : Byt w B A n l) (h' : Byt w B' A' n' l') :
    Calls Try.prog 125 #[.slice A n c, .slice A' n' c'] w fun e w' => e = .returned (.bool (l == l')) ∧ w = w' := by
  have q1 := run_str w h c
  have q2 := run_str w h' c'
  have e : ((strB l).toList == (strB l').toList) = (l == l') := by rw [strB_list, strB_list]
  replace e := Lib.hid e
  go_enter Try.func125, Try.ntmps125
  go_wp2_with fail
  go_ret
  exact ⟨ret_bool e.out, rfl⟩
/-- what makes two capabilities alike. -/
def capKey (r : CapV) : Int × List UInt8 := (r.t, r.v)
def sameC (r q : CapV) : Bool := r.t == q.t && r.v == q.v
theorem sameC_iff (r q : CapV) : sameC r q = true ↔ capKey r = capKey q := by
  unfold sameC capKey; simp
theorem same_any (w : World) (r q : CapV) (S S' : Nat → Prop) (hr : capK.ok w (fun b => b < w.heap.size) r) (hq : capK.ok w (fun b => b < w.heap.size) q) :
    Calls Try.prog 90 #[.agg #[.int .i64 r.t, .slice r.A r.n r.c], .agg #[.int .i64 q.t, .slice q.A q.n q.c]] w fun e w' => e = .returned (.bool (sameC r q)) ∧ Below w.heap.size w w' := by
  have hB := ((Below.refl w.heap.size w).alloc (Nat.le_refl _) (.cells #[.int .i64 r.t, .slice r.A r.n r.c] 60)).alloc (by simp) (.cells #[.int .i64 q.t, .slice q.A q.n q.c] 60)
  have h1 : Byt w w.heap.size r.A r.n r.v := hr.2.2.byt fun _ h => h
  have h2 : Byt w w.heap.size q.A q.n q.v := hq.2.2.byt fun _ h => h
  replace h1 := h1.below hB
  replace h2 := h2.below hB
  go_enter Try.func90, Try.ntmps90
  by_cases e : r.t = q.t
  · have b1 : (r.t == q.t) = true := by simpa using e
    have e2 : sameC r q = (r.v == q.v) := by unfold sameC; rw [b1]; rfl
    replace e2 := Lib.hid e2
    replace e := Lib.hid e
    go_wp2_with fail
    refine (bytesEq_any _ _ _ _ _ _ _ _ _ _ _ h1 h2).mono ?_
    rintro e w' ⟨rfl, rfl⟩
    go_wp2_with fail
    go_ret
    exact ⟨ret_bool e2.out.symm, hB⟩
  · have b1 : (r.t == q.t) = false := by simpa using e
    go_wp2_with fail
    go_ret
    exact ⟨ret_bool (by unfold sameC; rw [b1]; rfl), hB⟩
def keysEq (cs ds : List CapV) : Bool := decide (cs.map capKey = ds.map capKey)
theorem keys_no {cs ds : List CapV} {k : Nat} {r q : CapV} (hr : cs[k]? = some r) (hq : ds[k]? = some q) (h : sameC r q = false) : keysEq cs ds = false := by
  unfold keysEq
  simp only [decide_eq_false_iff_not]
  intro e
  have h1 : (cs.map capKey)[k]? = some (capKey r) := by rw [List.getElem?_map, hr]; rfl
  have h2 : (ds.map capKey)[k]? = some (capKey q) := by rw [List.getElem?_map, hq]; rfl
  rw [e, h2] at h1
  injection h1 with h1
  have := (sameC_iff r q).2 h1.symm
  rw [h] at this
  cases this
theorem keys_next {cs ds : List CapV} {k : Nat} {r q : CapV} (hr : cs[k]? = some r) (hq : ds[k]? = some q) (hk : keysEq (cs.take k) (ds.take k) = true) (h : sameC r q = true) : keysEq (cs.take (k + 1)) (ds.take (k + 1)) = true := by
  unfold keysEq at hk ⊢
  rw [decide_eq_true_eq] at hk ⊢
  rw [List.take_add_one, List.take_add_one, hr, hq, List.map_append, List.map_append, hk]
  simp [(sameC_iff r q).1 h]
theorem keys_len {cs ds : List CapV} (h : cs.length ≠ ds.length) : keysEq cs ds = false := by
  unfold keysEq
  simp only [decide_eq_false_iff_not]
  intro e
  exact h (by simpa using congrArg List.length e)
set_option maxHeartbeats 4000000 in
theorem equalFunc_any (w : World) (A A' : Option Addr) (n c n' c' : Nat) (cs ds : List CapV) (h : Seen capK w (fun b => b < w.heap.size) A n cs) (h' : Seen capK w (fun b => b < w.heap.size) A' n' ds) (hn : n ≤ 100000) :
    Calls Try.prog 89 #[.slice A n c, .slice A' n' c', .func (.func 90) #[] #[]] w fun e w' => e = .returned (.bool (keysEq cs ds)) ∧ Below w.heap.size w w' := by
  have hl := Lib.hid h.1
  have hl' := Lib.hid h'.1
  go_enter Try.func89, Try.ntmps89
  by_cases hne : n ≠ n'
  · have hb : ((n : Int) != n') = true := by simp; omega
    have e := Lib.hid (keys_len (cs := cs) (ds := ds) (by rw [hl.out, hl'.out]; exact hne))
    go_wp2_with fail
    go_ret
    exact ⟨ret_bool e.out.symm, Below.refl _ _⟩
  have hnn : n = n' := by omega
  subst hnn
  have hb : ((n : Int) != n) = false := by simp
  go_wp2_with fail
  go_loopw [7, 8, 17] (fun _ _ i wr => ∃ k : Nat, k ≤ n ∧ i = .int .i64 (k : Int) ∧ keysEq (cs.take k) (ds.take k) = true ∧ Below w.heap.size w wr) (fun _ _ i _ => n - (intOf i).toNat)
  case atStart => exact ⟨0, Nat.zero_le _, rfl, rfl, Below.refl _ _⟩
  case round =>
  obtain ⟨k, hk, rfl, hkey, hB⟩ := hrel
  have hzB := hB.size
  replace hkey := Lib.hid hkey
  by_cases hlt : k < n
  · have hS := h.below hB fun _ hb => hb
    have hS' := h'.below hB fun _ hb => hb
    obtain ⟨b, off, r, rfl, hb, hr, hrok, c0, c1⟩ := cap_cells hS hlt
    obtain ⟨b', off', q, rfl, hb', hq, hqok, d0, d1⟩ := cap_cells hS' hlt
    have hki : (k : Int) < n := by omega
    have hbx := (Below.refl wr.heap.size wr).alloc (Nat.le_refl _) (.cells #[.int .i64 r.t, .slice r.A r.n r.c] 60)
    have hqx := Blk.new wr 60 #[.int .i64 r.t, .slice r.A r.n r.c]
    generalize hx1 : wr.alloc (.cells #[.int .i64 r.t, .slice r.A r.n r.c] 60) = x1 at hbx hqx
    have hby := hbx.alloc hbx.size (.cells #[.int .i64 q.t, .slice q.A q.n q.c] 60)
    have hqy := Blk.new x1 60 #[.int .i64 q.t, .slice q.A q.n q.c]
    have hqxy := hqx.alloc (.cells #[.int .i64 q.t, .slice q.A q.n q.c] 60)
    have ltx := hqx.lt
    have d0x : x1.cell? ⟨b', off' + k * 2, none⟩ = some (.int .i64 q.t) := (hbx.cell (Nat.lt_of_lt_of_le hb' hzB)).trans d0
    have d1x : x1.cell? ⟨b', off' + k * 2 + 1, none⟩ = some (.slice q.A q.n q.c) := (hbx.cell (Nat.lt_of_lt_of_le hb' hzB)).trans d1
    generalize hx2 : x1.alloc (.cells #[.int .i64 q.t, .slice q.A q.n q.c] 60) = x2 at hby hqy hqxy
    have y0 : x2.cell? ⟨wr.heap.size, 0, none⟩ = some (.int .i64 r.t) := hqxy.cellv 0 rfl
    have y1 : x2.cell? ⟨wr.heap.size, 1, none⟩ = some (.slice r.A r.n r.c) := hqxy.cellv 1 rfl
    have z0 : x2.cell? ⟨x1.heap.size, 0, none⟩ = some (.int .i64 q.t) := hqy.cellv 0 rfl
    have z1 : x2.cell? ⟨x1.heap.size, 1, none⟩ = some (.slice q.A q.n q.c) := hqy.cellv 1 rfl
    have hz2 := hby.size
    have ok1 : capK.ok x2 (fun b => b < x2.heap.size) r := capK.more (capK.keep hrok fun p hp => hby.cell (Nat.lt_of_lt_of_le hp hzB)) fun b hb => by omega
    have ok2 : capK.ok x2 (fun b => b < x2.heap.size) q := capK.more (capK.keep hqok fun p hp => hby.cell (Nat.lt_of_lt_of_le hp hzB)) fun b hb => by omega
    have lty := hqy.lt
    go_wp2_with fail
    refine (same_any x2 r q (fun _ => True) (fun _ => True) ok1 ok2).mono ?_
    rintro e x3 ⟨rfl, hb3⟩
    have hall := hB.trans ((hby.trans (hb3.mono hz2)).mono hzB)
    cases hsm : sameC r q
    · have e := Lib.hid (keys_no hr hq hsm)
      go_wp2_with fail
      go_ret
      exact ⟨ret_bool e.out.symm, hall⟩
    · have e := Lib.hid (keys_next hr hq hkey.out hsm)
      go_wp2_with fail
      exact ⟨⟨k + 1, by omega, by go_num, e.out, hall⟩, by simp [intOf]; omega⟩
  · obtain rfl : k = n := by omega
    have e : keysEq cs ds = true := by
      have := hkey.out
      rw [List.take_of_length_le (by rw [hl.out]; omega), List.take_of_length_le (by rw [hl'.out]; omega)] at this
      exact this
    replace e := Lib.hid e
    go_wp2_with fail
    go_ret
    exact ⟨ret_bool e.out.symm, hB⟩
end Go.Proofs.Ytlpplclhjkbjbaa
