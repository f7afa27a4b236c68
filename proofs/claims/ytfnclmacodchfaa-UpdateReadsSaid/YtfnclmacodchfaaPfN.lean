/- update: all (with prefix.Good), the rows' test. -/
import Derived.Test.YtfnclmacodchfaaPfM
namespace Go.Proofs.Ytfnclmacodchfaa
set_option linter.unusedVariables false
open Go Go.RowKit

def allP (ps : List (Int × Int)) : Bool := ps.all fun p => goodP p.1 p.2
theorem allP_take {ps : List (Int × Int)} {k : Nat} {p : Int × Int} (hr : ps[k]? = some p) : allP (ps.take (k + 1)) = (allP (ps.take k) && goodP p.1 p.2) := by
  unfold allP
  rw [List.take_add_one, hr, List.all_append]; simp
theorem allP_no {ps : List (Int × Int)} {k : Nat} {p : Int × Int} (hr : ps[k]? = some p) (h : goodP p.1 p.2 = false) : allP ps = false := by
  unfold allP
  rw [Bool.eq_false_iff]
  intro ha
  have := List.all_eq_true.1 ha _ (List.mem_of_getElem? hr)
  rw [h] at this; cases this
def goodF : Value := .func (.func 26) #[] #[]
def allF (g : Nat) : Value := .func (.func 62) #[] #[.pointer (some ⟨g, 0, none⟩)]
set_option maxRecDepth 100000 in
theorem all1_any (w : World) (a n : Int) (h0 : 0 ≤ a) (h1 : a ≤ 4294967295) (g : Nat) (hg : w.cell? ⟨g, 0, none⟩ = some (.func (.func 26) #[] #[])) (hl : g < w.heap.size) :
    Calls Try.prog 62 #[.agg #[.int .u32 a, .int .i64 n], .pointer (some ⟨g, 0, none⟩)] w fun e w' => e = .returned (.bool (!goodP a n)) ∧ Below w.heap.size w w' := by
  have hB := (Below.refl w.heap.size w).alloc (Nat.le_refl _) (.cells #[.int .u32 a, .int .i64 n] 61)
  have hk : (w.alloc (.cells #[.int .u32 a, .int .i64 n] 61)).cell? ⟨g, 0, none⟩ = some (.func (.func 26) #[] #[]) := (hB.cell (p := ⟨g, 0, none⟩) hl).trans hg
  go_enter Try.func62, Try.ntmps62
  go_wp2_with (go_at_call 26; refine (prefixGood_any _ a n h0 h1).mono ?_; rintro e w2 ⟨rfl, hb⟩)
  go_ret
  exact ⟨rfl, hB.trans (hb.mono hB.size)⟩
set_option maxRecDepth 100000 in
theorem indexP_any (w : World) (A : Option Addr) (n c : Nat) (ps : List (Int × Int)) (S : Nat → Prop) (h : Seen pfK w S A n ps) (hS : ∀ b, S b → b < w.heap.size) (hn : n ≤ 10000000) (g : Nat) (hg : w.cell? ⟨g, 0, none⟩ = some (.func (.func 26) #[] #[])) (hgl : g < w.heap.size) :
    Calls Try.prog 92 #[.slice A n c, .func (.func 62) #[] #[.pointer (some ⟨g, 0, none⟩)]] w fun e w' => ∃ i, e = .returned (.int .i64 i) ∧ decide (0 ≤ i) = !allP ps ∧ Below w.heap.size w w' := by
  have hl := Lib.hid h.1
  go_enter Try.func92, Try.ntmps92
  go_wp2_with fail
  go_loopw [5, 8] (fun _ i wr => ∃ k : Nat, k ≤ n ∧ i = .int .i64 (k : Int) ∧ allP (ps.take k) = true ∧ Below w.heap.size w wr) (fun _ i _ => n - (intOf i).toNat)
  case atStart => exact ⟨0, Nat.zero_le _, rfl, rfl, Below.refl _ _⟩
  case round =>
  obtain ⟨k, hk, rfl, hall, hB⟩ := hrel
  have hzB := hB.size
  replace hall := Lib.hid hall
  by_cases hlt : k < n
  · obtain ⟨b, off, p, rfl, hb, hr, p0, p1, c0, c1⟩ := pf_cells (h.below hB hS) hlt
    have hki : (k : Int) < n := by omega
    have lb : b < wr.heap.size := Nat.lt_of_lt_of_le (hS _ hb) hzB
    have hg2 : wr.cell? ⟨g, 0, none⟩ = some (.func (.func 26) #[] #[]) := (hB.cell (p := ⟨g, 0, none⟩) hgl).trans hg
    have hlg : g < wr.heap.size := by omega
    obtain ⟨a, m⟩ := p
    simp only at c0 c1 p0 p1
    cases hz : goodP a m
    · have e := Lib.hid (allP_no hr hz)
      go_wp2_with (go_at_call 62; refine (all1_any wr a m p0 p1 g hg2 hlg).mono ?_; rw [hz]; rintro e w2 ⟨rfl, hb2⟩)
      go_ret
      exact ⟨_, rfl, by rw [e.out]; simp, hB.trans (hb2.mono hzB)⟩
    · have e := Lib.hid (allP_take hr)
      go_wp2_with (go_at_call 62; refine (all1_any wr a m p0 p1 g hg2 hlg).mono ?_; rw [hz]; rintro e w2 ⟨rfl, hb2⟩)
      exact ⟨⟨k + 1, by omega, by go_num, by rw [e.out, hall.out, hz]; rfl, hB.trans (hb2.mono hzB)⟩, by simp [intOf]; omega⟩
  · obtain rfl : k = n := by omega
    have e : allP ps = true := by
      have := hall.out
      rw [List.take_of_length_le (by rw [hl.out]; omega)] at this
      exact this
    replace e := Lib.hid e
    go_wp2_with fail
    go_ret
    exact ⟨_, rfl, by rw [e.out]; decide, hB⟩
theorem containsP_any (w : World) (A : Option Addr) (n c : Nat) (ps : List (Int × Int)) (S : Nat → Prop) (h : Seen pfK w S A n ps) (hS : ∀ b, S b → b < w.heap.size) (hn : n ≤ 10000000) (g : Nat) (hg : w.cell? ⟨g, 0, none⟩ = some (.func (.func 26) #[] #[])) (hgl : g < w.heap.size) :
    Calls Try.prog 60 #[.slice A n c, .func (.func 62) #[] #[.pointer (some ⟨g, 0, none⟩)]] w fun e w' => e = .returned (.bool (!allP ps)) ∧ Below w.heap.size w w' := by
  go_enter Try.func60, Try.ntmps60
  go_wp2_with fail
  refine (indexP_any w A n c ps S h hS hn g hg hgl).mono ?_
  rintro e w' ⟨i, rfl, hz, hB⟩
  replace hz := Lib.hid hz
  go_wp2_with fail
  go_ret
  exact ⟨ret_bool hz.out, hB⟩
set_option maxRecDepth 100000 in
set_option maxHeartbeats 2000000 in
theorem upAll_any (w : World) (b : Nat) (hb : b < w.heap.size) (A1 : Option Addr) (n1 c1 : Nat) (l1 : List (Int × Int)) (A2 : Option Addr) (n2 c2 : Nat) (l2 : List (Int × Int)) (k1 : w.cell? ⟨b, 0, none⟩ = some (.slice A1 n1 c1)) (k2 : w.cell? ⟨b, 1, none⟩ = some (.slice A2 n2 c2))
    (h1 : Seen pfK w (fun b => b < w.heap.size) A1 n1 l1) (h2 : Seen pfK w (fun b => b < w.heap.size) A2 n2 l2) (z1 : n1 ≤ 1000000) (z2 : n2 ≤ 1000000) :
    Calls Try.prog 25 #[.func (.func 26) #[] #[], .slice (some ⟨b, 0, none⟩) 2 2] w fun e w' => e = .returned (.bool (allP l1 && allP l2)) ∧ Below w.heap.size w w' := by
  have hB := (Below.refl w.heap.size w).alloc (Nat.le_refl _) (.cells #[.func (.func 26) #[] #[]] 58)
  have hp := Blk.new w 58 #[.func (.func 26) #[] #[]]
  have e12 : allP (l1 ++ l2) = (allP l1 && allP l2) := List.all_append
  have hl1 := h1.1
  have hl2 := h2.1
  go_enter Try.func25, Try.ntmps25
  go_upto_region 1 with (fail)
  generalize w.alloc (.cells #[.func (.func 26) #[] #[]] 58) = w1 at *
  have hz := hB.size
  have hc := concatP_any w1 b (by omega) A1 n1 c1 l1 A2 n2 c2 l2 ((hB.cell (p := ⟨b, 0, none⟩) hb).trans k1) ((hB.cell (p := ⟨b, 1, none⟩) hb).trans k2) ((h1.below hB fun _ q => q).more fun b q => Nat.lt_of_lt_of_le q hz) ((h2.below hB fun _ q => q).more fun b q => Nat.lt_of_lt_of_le q hz) z1 z2
  obtain ⟨l, hle⟩ : ∃ l, l = l1 ++ l2 := ⟨_, rfl⟩
  rw [← hle] at e12 hc
  have hll := Lib.hid (show l.length = n1 + n2 by rw [hle, List.length_append, hl1, hl2])
  replace e12 := Lib.hid e12
  clear hl1 hl2 hle
  go_wp2_with (first
    | (go_at_call 61; refine hc.mono ?_; rintro e w2 ⟨v, rfl, hr, hb2⟩; obtain ⟨A, cp, rfl, -, -, hs⟩ := hr.seen (Nat.le_refl _); have hp2 := hp.below hb2 hp.lt; have q0 := hp2.cellv 0 (v := .func (.func 26) #[] #[]) rfl; have lq := hp2.lt)
    | (go_at_call 60; refine (containsP_any w2 A _ cp l _ hs (fun b q => q.2) (by have := hll.out; omega) w.heap.size q0 lq).mono ?_; rintro e w3 ⟨rfl, hb3⟩))
  go_ret
  have hx := hB.trans (hb2.mono hz)
  exact ⟨ret_bool (by rw [e12.out]), hx.trans (hb3.mono hx.size)⟩
end Go.Proofs.Ytfnclmacodchfaa
