/- open: capabilities, Good, light. -/
import Derived.Test.YtlpplclhjkbjbaaRow2
import Derived.Test.YtlpplclhjkbjbaaWird
import Derived.Test.YtlpplclhjkbjbaaAtJ
import Derived.LoopTactic
namespace Go.Proofs.Ytlpplclhjkbjbaa
set_option linter.unusedVariables false
open Go.RowKit

/-- a capability in memory. -/
structure CapV where
  t : Int
  A : Option Addr
  n : Nat
  c : Nat
  v : List UInt8
def capK : RK CapV where
  size := 2
  cel r := [.int .i64 r.t, .slice r.A r.n r.c]
  ok w S r := r.n ≤ r.c ∧ r.c ≤ maxLen ∧ BytS w S r.A r.n r.v
  pos := by omega
  len _ := rfl
  one _ u hu := by simp at hu; rcases hu with rfl | rfl <;> rfl
  keep h hk := ⟨h.1, h.2.1, h.2.2.keep hk⟩
  more h hS := ⟨h.1, h.2.1, h.2.2.more hS⟩
def capZ : Value := .agg #[.int .i64 0, .slice none 0 0]
theorem cap_ok : ElemOk Try.prog 55 60 capK.size 32 capZ := ⟨Try.underlying55, by kernel_rfl, rfl, capK.pos⟩
theorem refCap_ok : ElemOk Try.prog 62 129 capK.size 32 capZ := ⟨Try.underlying62, by kernel_rfl, rfl, capK.pos⟩
theorem cap_cells {w : World} {S : Nat → Prop} {A : Option Addr} {n : Nat} {rs : List CapV} (h : Seen capK w S A n rs) {k : Nat} (hk : k < n) :
    ∃ b off r, A = some ⟨b, off, none⟩ ∧ S b ∧ rs[k]? = some r ∧ capK.ok w S r ∧ w.cell? ⟨b, off + k * 2, none⟩ = some (.int .i64 r.t) ∧ w.cell? ⟨b, off + k * 2 + 1, none⟩ = some (.slice r.A r.n r.c) := by
  have hlt : k < rs.length := by rw [h.1]; exact hk
  have hr := List.getElem?_eq_getElem hlt
  obtain ⟨b, off, e, hb, hc⟩ := h.cell hr
  exact ⟨b, off, _, e, hb, hr, h.2.1 _ (List.getElem_mem hlt), hc 0 (by decide), hc 1 (by decide)⟩
def capOk (c : CapV) : Bool := decide (0 ≤ c.t) && decide (c.t ≤ 255) && decide (c.n ≤ 100)
def capSum (cs : List CapV) : Nat := (cs.map fun c => c.n + 2).sum
theorem capSum_take (cs : List CapV) (k : Nat) (r : CapV) (h : cs[k]? = some r) : capSum (cs.take (k + 1)) = capSum (cs.take k) + (r.n + 2) := by
  unfold capSum
  rw [List.take_add_one, h]; simp
theorem capSum_le (cs : List CapV) (k : Nat) : capSum (cs.take k) ≤ capSum cs := by
  have e : cs = cs.take k ++ cs.drop k := (List.take_append_drop k cs).symm
  have : capSum cs = capSum (cs.take k) + capSum (cs.drop k) := by
    unfold capSum
    rw [← List.sum_append, ← List.map_append, List.take_append_drop]
  omega
theorem capSum_good (cs : List CapV) (h : cs.all capOk = true) : capSum cs ≤ 102 * cs.length := by
  unfold capSum
  induction cs with
  | nil => simp
  | cons c cs ih =>
    simp only [List.all_cons, Bool.and_eq_true] at h
    have h1 := h.1
    unfold capOk at h1
    simp only [Bool.and_eq_true, decide_eq_true_eq] at h1
    have := ih h.2
    simp only [List.map_cons, List.sum_cons, List.length_cons]
    omega
def holdB (h : Int) : Bool := h == 0 || (decide (3 ≤ h) && decide (h ≤ 65535))
def goodO (a h id : Int) (cs : List CapV) : Bool := (decide (1 ≤ a) && decide (a ≤ 65535)) && holdB h && (id != 0) && (cs.all capOk && decide (capSum cs ≤ 200))
theorem goodHold_any (h : Int) (w : World) : Calls Try.prog 83 #[.int .i64 h] w fun e w' => e = .returned (.bool (holdB h)) ∧ w = w' := by
  go_enter Try.func83, Try.ntmps83
  go_wp2_with fail
  all_goals go_ret
  all_goals (refine ⟨ret_bool ?_, rfl⟩; simp_all [holdB]; try omega)
theorem capGood_any (w : World) (r : CapV) : Calls Try.prog 84 #[.agg #[.int .i64 r.t, .slice r.A r.n r.c]] w fun e w' => e = .returned (.bool (capOk r)) ∧ Below w.heap.size w w' := by
  have hB := (Below.refl w.heap.size w).alloc (Nat.le_refl _) (.cells #[.int .i64 r.t, .slice r.A r.n r.c] 60)
  go_enter Try.func84, Try.ntmps84
  go_wp2_with fail
  all_goals go_ret
  all_goals (refine ⟨ret_bool ?_, hB⟩; simp_all [capOk]; try omega)
set_option maxRecDepth 100000 in
set_option maxHeartbeats 8000000 in
theorem openGood_any (w : World) (a h id : Int) (A : Option Addr) (n c : Nat) (cs : List CapV) (hS : Seen capK w (fun b => b < w.heap.size) A n cs) (hn : n ≤ 100) :
    Calls Try.prog 31 #[.agg #[.int .i64 a, .int .i64 h, .int .u32 id, .slice A n c]] w fun e w' => e = .returned (.bool (goodO a h id cs)) ∧ Below w.heap.size w w' := by
  have hl := hS.1
  have hB := (Below.refl w.heap.size w).alloc (Nat.le_refl _) (.cells #[.int .i64 a, .int .i64 h, .int .u32 id, .slice A n c] 57)
  have hq := Blk.new w 57 #[.int .i64 a, .int .i64 h, .int .u32 id, .slice A n c]
  go_enter Try.func31, Try.ntmps31
  by_cases a1 : a < 1
  · have e : goodO a h id cs = false := by unfold goodO; rw [show decide (1 ≤ a) = false by simp; omega]; rfl
    have d1 : decide (a < 1) = true := by simpa using a1
    replace e := Lib.hid e
    go_wp2_with fail
    go_ret
    exact ⟨ret_bool e.out.symm, hB⟩
  have d1 : decide (a < 1) = false := by simpa using a1
  by_cases a2 : 65535 < a
  · have e : goodO a h id cs = false := by unfold goodO; rw [show decide (a ≤ 65535) = false by simp; omega]; simp
    have d2 : decide (65535 < a) = true := by simpa using a2
    replace e := Lib.hid e
    go_wp2_with fail
    go_ret
    exact ⟨ret_bool e.out.symm, hB⟩
  have d2 : decide (65535 < a) = false := by simpa using a2
  have ea : (decide (1 ≤ a) && decide (a ≤ 65535)) = true := by simp; omega
  replace ea := Lib.hid ea
  clear a1 a2
  go_wp2_with fail
  refine (goodHold_any h _).mono ?_
  rintro e w' ⟨rfl, rfl⟩
  cases hh : holdB h
  · go_wp2_with fail
    go_ret
    exact ⟨ret_bool (by unfold goodO; rw [hh]; simp), hB⟩
  by_cases hid : id = 0
  · have di : (id == 0) = true := by simpa using hid
    replace hid := Lib.hid hid
    go_wp2_with fail
    go_ret
    exact ⟨ret_bool (by unfold goodO; rw [hid.out]; simp), hB⟩
  have di : (id == 0) = false := by simpa using hid
  have hall : goodO a h id cs = (cs.all capOk && decide (capSum cs ≤ 200)) := by unfold goodO; rw [ea.out, hh, show (id != 0) = true by simpa using hid]; rfl
  replace hall := Lib.hid hall
  replace hid := Lib.hid hid
  replace hl := Lib.hid hl
  go_wp2_with fail
  go_loopw [3, 5, 28] (fun v _ i wr => ∃ k : Nat, k ≤ n ∧ i = .int .i64 (k : Int) ∧ v = .int .i64 (capSum (cs.take k) : Nat) ∧ (cs.take k).all capOk = true ∧ Below w.heap.size w wr) (fun _ _ i _ => n - (intOf i).toNat)
  case atStart => exact ⟨0, Nat.zero_le _, rfl, rfl, rfl, hB⟩
  case round =>
  clear hB hq
  obtain ⟨k, hk, rfl, rfl, hok, hB⟩ := hrel
  have hzB := hB.size
  have hs1 := capSum_good _ hok
  rw [List.length_take, Nat.min_eq_left (by rw [hl.out]; omega)] at hs1
  replace hok := Lib.hid hok
  by_cases hlt : k < n
  · have hS2 := hS.below hB fun _ hb => hb
    obtain ⟨b, off, r, rfl, hb, hr, hrok, c0, c1⟩ := cap_cells hS2 hlt
    have hbx := (Below.refl wr.heap.size wr).alloc (Nat.le_refl _) (.cells #[.int .i64 r.t, .slice r.A r.n r.c] 60)
    have hki : (k : Int) < n := by omega
    have hst := capSum_take cs k r hr
    have hsl := capSum_le cs (k + 1)
    have hzx := hbx.size
    have hmem : r ∈ cs := List.mem_of_getElem? hr
    have htk : cs.take (k + 1) = cs.take k ++ [r] := by rw [List.take_add_one, hr]; rfl
    replace htk := Lib.hid htk
    replace hst := Lib.hid hst
    replace hsl := Lib.hid hsl
    go_wp2_with fail
    refine (capGood_any _ r).mono ?_
    rintro e w2 ⟨rfl, hb2⟩
    have hqx := (Blk.new wr 60 #[.int .i64 r.t, .slice r.A r.n r.c]).below hb2 (by simp)
    have x1 : w2.cell? ⟨wr.heap.size, 1, none⟩ = some (.slice r.A r.n r.c) := hqx.cellv 1 rfl
    have ltx := hqx.lt
    replace hb2 := hbx.trans (hb2.mono hzx)
    cases hro : capOk r
    · go_wp2_with fail
      go_ret
      refine ⟨ret_bool ?_, hB.trans (hb2.mono hzB)⟩
      rw [hall.out, show cs.all capOk = false by
        rw [Bool.eq_false_iff]; intro hh; have := List.all_eq_true.1 hh r hmem; rw [hro] at this; cases this]
      rfl
    by_cases h200 : 200 < capSum (cs.take k)
    · have d3 : decide ((200 : Int) < ((capSum (cs.take k) : Nat) : Int)) = true := by simp; omega
      go_wp2_with fail
      go_ret
      refine ⟨ret_bool ?_, hB.trans (hb2.mono hzB)⟩
      rw [hall.out, show decide (capSum cs ≤ 200) = false by have := hst.out; have := hsl.out; simp; omega]
      simp
    · have d3 : decide ((200 : Int) < ((capSum (cs.take k) : Nat) : Int)) = false := by simp; omega
      have hn100 : r.n ≤ 100 := by unfold capOk at hro; simp at hro; omega
      have hw1 : IntKind.i64.wrap ((r.n : Int) + 2) = (r.n : Int) + 2 := IntWalk.i64_in _ (by omega)
      have hw2 : IntKind.i64.wrap (((capSum (cs.take k) : Nat) : Int) + ((r.n : Int) + 2)) = ((capSum (cs.take k) : Nat) : Int) + ((r.n : Int) + 2) := IntWalk.i64_in _ (by omega)
      go_wp2_with fail
      refine ⟨⟨k + 1, by omega, by go_num, by rw [hst.out]; simp, ?_, hB.trans (hb2.mono hzB)⟩, by simp [intOf]; omega⟩
      rw [htk.out, List.all_append, hok.out]; simp [hro]
  · obtain rfl : k = n := by omega
    rw [List.take_of_length_le (by rw [hl.out]; omega)] at hok
    have htk : cs.take k = cs := List.take_of_length_le (by rw [hl.out]; omega)
    rw [htk]
    replace htk := Lib.hid htk
    go_wp2_with fail
    go_ret
    refine ⟨ret_bool ?_, hB⟩
    rw [hall.out, hok.out]
    by_cases hz : capSum cs ≤ 200
    · simp [hz]; omega
    · simp [hz]; omega
/-- the document's. -/
theorem allOk_not {cs : List CapV} {r : CapV} (hm : r ∈ cs) (hr : capOk r = false) : cs.all capOk = false := by
  rw [Bool.eq_false_iff]; intro hh; have := List.all_eq_true.1 hh r hm; rw [hr] at this; cases this
set_option maxRecDepth 100000 in
set_option maxHeartbeats 8000000 in
theorem refGood8_any (w : World) (a h id : Int) (A : Option Addr) (n c : Nat) (cs : List CapV) (hS : Seen capK w (fun b => b < w.heap.size) A n cs) (hn : n ≤ 100) :
    Calls Try.prog 32 #[.agg #[.int .i64 a, .int .i64 h, .int .u32 id, .slice A n c]] w fun e w' => e = .returned (.bool (goodO a h id cs)) ∧ Below w.heap.size w w' := by
  have hl := hS.1
  have hB := (Below.refl w.heap.size w).alloc (Nat.le_refl _) (.cells #[.int .i64 a, .int .i64 h, .int .u32 id, .slice A n c] 64)
  have hq := Blk.new w 64 #[.int .i64 a, .int .i64 h, .int .u32 id, .slice A n c]
  replace hl := Lib.hid hl
  go_enter Try.func32, Try.ntmps32
  go_wp2_with fail
  go_loopw [3, 5, 9] (fun v _ i wr => ∃ k : Nat, k ≤ n ∧ i = .int .i64 (k : Int) ∧ v = .int .i64 (capSum (cs.take k) : Nat) ∧ (cs.take k).all capOk = true ∧ capSum (cs.take k) ≤ 200 ∧ Blk wr w.heap.size 64 #[.int .i64 a, .int .i64 h, .int .u32 id, .slice A n c] ∧ Below w.heap.size w wr) (fun _ _ i _ => n - (intOf i).toNat)
  case atStart => exact ⟨0, Nat.zero_le _, rfl, rfl, rfl, Nat.zero_le _, hq, hB⟩
  case round =>
  clear hB hq
  obtain ⟨k, hk, rfl, rfl, hok, h200, hq, hB⟩ := hrel
  have hzB := hB.size
  replace hok := Lib.hid hok
  by_cases hlt : k < n
  · have hS2 := hS.below hB fun _ hb => hb
    obtain ⟨b, off, r, rfl, hb, hr, hrok, c0, c1⟩ := cap_cells hS2 hlt
    have hbx := (Below.refl wr.heap.size wr).alloc (Nat.le_refl _) (.cells #[.int .i64 r.t, .slice r.A r.n r.c] 129)
    have hqx := hq.alloc (.cells #[.int .i64 r.t, .slice r.A r.n r.c] 129)
    have hki : (k : Int) < n := by omega
    have hst := capSum_take cs k r hr
    have hsl := capSum_le cs (k + 1)
    have hmem : r ∈ cs := List.mem_of_getElem? hr
    have htk : cs.take (k + 1) = cs.take k ++ [r] := by rw [List.take_add_one, hr]; rfl
    have hb2 := hB.trans (hbx.mono hzB)
    replace htk := Lib.hid htk
    replace hsl := Lib.hid hsl
    by_cases d1x : r.t < 0
    · have d1 : decide (r.t < 0) = true := by simpa using d1x
      have hro : capOk r = false := by unfold capOk; rw [Bool.eq_false_iff]; simp; omega
      replace hst := Lib.hid hst
      go_wp2_with fail
      go_ret
      exact ⟨ret_bool (by unfold goodO; rw [allOk_not hmem hro]; simp), hb2⟩
    have d1 : decide (r.t < 0) = false := by simpa using d1x
    by_cases d2x : 255 < r.t
    · have d2 : decide (255 < r.t) = true := by simpa using d2x
      have hro : capOk r = false := by unfold capOk; rw [Bool.eq_false_iff]; simp; omega
      replace hst := Lib.hid hst
      go_wp2_with fail
      go_ret
      exact ⟨ret_bool (by unfold goodO; rw [allOk_not hmem hro]; simp), hb2⟩
    have d2 : decide (255 < r.t) = false := by simpa using d2x
    by_cases d3x : (100 : Int) < r.n
    · have d3 : decide ((100 : Int) < r.n) = true := by simpa using d3x
      have hro : capOk r = false := by unfold capOk; rw [Bool.eq_false_iff]; simp; omega
      replace hst := Lib.hid hst
      go_wp2_with fail
      go_ret
      exact ⟨ret_bool (by unfold goodO; rw [allOk_not hmem hro]; simp), hb2⟩
    have d3 : decide ((100 : Int) < r.n) = false := by simpa using d3x
    have hro : capOk r = true := by unfold capOk; simp; omega
    have hw1 : IntKind.i64.wrap (2 + (r.n : Int)) = 2 + (r.n : Int) := IntWalk.i64_in _ (by omega)
    have hw2 : IntKind.i64.wrap (((capSum (cs.take k) : Nat) : Int) + (2 + (r.n : Int))) = ((capSum (cs.take k) : Nat) : Int) + (2 + (r.n : Int)) := IntWalk.i64_in _ (by omega)
    by_cases d4x : 200 < capSum (cs.take k) + (r.n + 2)
    · have d4 : decide ((200 : Int) < ((capSum (cs.take k) : Nat) : Int) + (2 + (r.n : Int))) = true := by simp; omega
      replace hst := Lib.hid hst
      go_wp2_with fail
      go_ret
      exact ⟨ret_bool (by unfold goodO; rw [show decide (capSum cs ≤ 200) = false by have := hst.out; have := hsl.out; simp; omega]; simp), hb2⟩
    · have d4 : decide ((200 : Int) < ((capSum (cs.take k) : Nat) : Int) + (2 + (r.n : Int))) = false := by simp; omega
      replace hst := Lib.hid hst
      go_wp2_with fail
      refine ⟨⟨k + 1, by omega, by go_num, by rw [hst.out]; simp; omega, ?_, by rw [hst.out]; omega, hqx, hb2⟩, by simp [intOf]; omega⟩
      rw [htk.out, List.all_append, hok.out]; simp [hro]
  · obtain rfl : k = n := by omega
    have htk : cs.take k = cs := List.take_of_length_le (by rw [hl.out]; omega)
    rw [htk] at hok h200
    have hfin : goodO a h id cs = ((decide (1 ≤ a) && decide (a ≤ 65535)) && holdB h && (id != 0)) := by unfold goodO; rw [hok.out]; simp [h200]
    replace hfin := Lib.hid hfin
    replace htk := Lib.hid htk
    have x0 : wr.cell? ⟨w.heap.size, 0, none⟩ = some (.int .i64 a) := hq.cellv 0 rfl
    have x1 : wr.cell? ⟨w.heap.size, 1, none⟩ = some (.int .i64 h) := hq.cellv 1 rfl
    have x2 : wr.cell? ⟨w.heap.size, 2, none⟩ = some (.int .u32 id) := hq.cellv 2 rfl
    have ltq := hq.lt
    go_wp2_with fail
    all_goals go_ret
    all_goals refine ⟨ret_bool ?_, hB⟩
    all_goals rw [hfin.out]
    all_goals (simp_all [holdB]; try omega)
theorem light8_any (w : World) (a h id : Int) (A : Option Addr) (n c : Nat) (cs : List CapV) (hS : Seen capK w (fun b => b < w.heap.size) A n cs) :
    Calls Try.prog 29 #[.agg #[.int .i64 a, .int .i64 h, .int .u32 id, .slice A n c]] w fun e w' => ∃ x, e = .returned (.bool x) ∧ (x = true → n ≤ 100) ∧ Below w.heap.size w w' := by
  have hl := Lib.hid hS.1
  have hB := (Below.refl w.heap.size w).alloc (Nat.le_refl _) (.cells #[.int .i64 a, .int .i64 h, .int .u32 id, .slice A n c] 57)
  go_enter Try.func29, Try.ntmps29
  by_cases hbig : 100 < n
  · have i1 : decide ((100 : Int) < n) = true := by simp; omega
    go_wp2_with fail
    go_ret
    exact ⟨false, rfl, by simp, hB⟩
  have i1 : decide ((100 : Int) < n) = false := by simp; omega
  go_wp2_with fail
  go_loopw [3, 5, 13] (fun v _ i wr => ∃ k : Nat, k ≤ n ∧ i = .int .i64 (k : Int) ∧ (∃ z, v = .int .i64 z) ∧ Below w.heap.size w wr) (fun _ _ i _ => n - (intOf i).toNat)
  case atStart => exact ⟨0, Nat.zero_le _, rfl, ⟨_, rfl⟩, hB⟩
  case round =>
  clear hB
  obtain ⟨k, hk, rfl, ⟨z, rfl⟩, hB⟩ := hrel
  have hzB := hB.size
  by_cases hlt : k < n
  · have hS2 := hS.below hB fun _ hb => hb
    obtain ⟨b, off, r, rfl, hb, hr, hok, c0, c1⟩ := cap_cells hS2 hlt
    have hbx := (Below.refl wr.heap.size wr).alloc (Nat.le_refl _) (.cells #[.int .i64 r.t, .slice r.A r.n r.c] 60)
    have hki : (k : Int) < n := by omega
    go_wp2_with fail
    · go_ret
      exact ⟨false, rfl, by simp, hB.trans (hbx.mono hzB)⟩
    · exact ⟨⟨k + 1, by omega, by go_num, ⟨_, rfl⟩, hB.trans (hbx.mono hzB)⟩, by simp [intOf]; omega⟩
  · obtain rfl : k = n := by omega
    go_wp2_with fail
    go_ret
    exact ⟨true, rfl, fun _ => by omega, hB⟩
end Go.Proofs.Ytlpplclhjkbjbaa
