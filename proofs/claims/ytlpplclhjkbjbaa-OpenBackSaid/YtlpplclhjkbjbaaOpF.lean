/- open: Has. -/
import Derived.Test.YtlpplclhjkbjbaaOpE
namespace Go.Proofs.Ytlpplclhjkbjbaa
set_option linter.unusedVariables false
open Go.RowKit

def hasC (z : Int) (cs : List CapV) : Bool := cs.any fun r => r.t == z
theorem hasC_take {cs : List CapV} {k : Nat} {r : CapV} (z : Int) (hr : cs[k]? = some r) : hasC z (cs.take (k + 1)) = (hasC z (cs.take k) || r.t == z) := by
  unfold hasC
  rw [List.take_add_one, hr, List.any_append]; simp
theorem hasC_yes {cs : List CapV} {k : Nat} {r : CapV} (z : Int) (hr : cs[k]? = some r) (h : (r.t == z) = true) : hasC z cs = true := by
  unfold hasC
  rw [List.any_eq_true]
  exact ⟨r, List.mem_of_getElem? hr, h⟩
theorem has1_any (w : World) (r : CapV) (z : Int) (g : Nat) (hg : w.cell? ⟨g, 0, none⟩ = some (.int .i64 z)) (hl : g < w.heap.size) :
    Calls Try.prog 92 #[.agg #[.int .i64 r.t, .slice r.A r.n r.c], .pointer (some ⟨g, 0, none⟩)] w fun e w' => e = .returned (.bool (r.t == z)) ∧ Below w.heap.size w w' := by
  have hB := (Below.refl w.heap.size w).alloc (Nat.le_refl _) (.cells #[.int .i64 r.t, .slice r.A r.n r.c] 60)
  have h1 : (w.alloc (.cells #[.int .i64 r.t, .slice r.A r.n r.c] 60)).cell? ⟨g, 0, none⟩ = some (.int .i64 z) := (hB.cell (p := ⟨g, 0, none⟩) hl).trans hg
  go_enter Try.func92, Try.ntmps92
  go_wp2_with fail
  go_ret
  exact ⟨rfl, hB⟩
theorem index_any (w : World) (A : Option Addr) (n c : Nat) (cs : List CapV) (z : Int) (g : Nat) (hg : w.cell? ⟨g, 0, none⟩ = some (.int .i64 z)) (hgl : g < w.heap.size) (h : Seen capK w (fun b => b < w.heap.size) A n cs) (hn : n ≤ 10000) :
    Calls Try.prog 126 #[.slice A n c, .func (.func 92) #[] #[.pointer (some ⟨g, 0, none⟩)]] w fun e w' => ∃ i, e = .returned (.int .i64 i) ∧ decide (0 ≤ i) = hasC z cs ∧ Below w.heap.size w w' := by
  have hl := Lib.hid h.1
  go_enter Try.func126, Try.ntmps126
  go_wp2_with fail
  go_loopw [5, 8] (fun _ i wr => ∃ k : Nat, k ≤ n ∧ i = .int .i64 (k : Int) ∧ hasC z (cs.take k) = false ∧ Below w.heap.size w wr) (fun _ i _ => n - (intOf i).toNat)
  case atStart => exact ⟨0, Nat.zero_le _, rfl, rfl, Below.refl _ _⟩
  case round =>
  obtain ⟨k, hk, rfl, hhas, hB⟩ := hrel
  have hzB := hB.size
  replace hhas := Lib.hid hhas
  by_cases hlt : k < n
  · have hS := h.below hB fun _ hb => hb
    obtain ⟨b, off, r, rfl, hb, hr, hrok, c0, c1⟩ := cap_cells hS hlt
    have hki : (k : Int) < n := by omega
    have hg2 : wr.cell? ⟨g, 0, none⟩ = some (.int .i64 z) := (hB.cell (p := ⟨g, 0, none⟩) hgl).trans hg
    go_wp2_with fail
    refine (has1_any wr r z g hg2 (by omega)).mono ?_
    rintro e w2 ⟨rfl, hb2⟩
    have hB2 := hB.trans (hb2.mono hzB)
    cases hz : (r.t == z)
    · have e := Lib.hid (hasC_take z hr)
      go_wp2_with fail
      exact ⟨⟨k + 1, by omega, by go_num, by rw [e.out, hhas.out, hz]; rfl, hB2⟩, by simp [intOf]; omega⟩
    · have e := Lib.hid (hasC_yes z hr hz)
      go_wp2_with fail
      go_ret
      exact ⟨_, rfl, by rw [e.out]; simp, hB2⟩
  · obtain rfl : k = n := by omega
    have e : hasC z cs = false := by
      have := hhas.out
      rw [List.take_of_length_le (by rw [hl.out]; omega)] at this
      exact this
    replace e := Lib.hid e
    go_wp2_with fail
    go_ret
    exact ⟨_, rfl, by rw [e.out]; decide, hB⟩
theorem containsC_any (w : World) (A : Option Addr) (n c : Nat) (cs : List CapV) (z : Int) (g : Nat) (hg : w.cell? ⟨g, 0, none⟩ = some (.int .i64 z)) (hgl : g < w.heap.size) (h : Seen capK w (fun b => b < w.heap.size) A n cs) (hn : n ≤ 10000) :
    Calls Try.prog 91 #[.slice A n c, .func (.func 92) #[] #[.pointer (some ⟨g, 0, none⟩)]] w fun e w' => e = .returned (.bool (hasC z cs)) ∧ Below w.heap.size w w' := by
  go_enter Try.func91, Try.ntmps91
  go_wp2_with fail
  refine (index_any w A n c cs z g hg hgl h hn).mono ?_
  rintro e w' ⟨i, rfl, hz, hB⟩
  replace hz := Lib.hid hz
  go_wp2_with fail
  go_ret
  exact ⟨ret_bool hz.out, hB⟩
theorem has_any (w : World) (a h id : Int) (A : Option Addr) (n c : Nat) (cs : List CapV) (z : Int) (hS : Seen capK w (fun b => b < w.heap.size) A n cs) (hn : n ≤ 10000) :
    Calls Try.prog 38 #[.agg #[.int .i64 a, .int .i64 h, .int .u32 id, .slice A n c], .int .i64 z] w fun e w' => e = .returned (.bool (hasC z cs)) ∧ Below w.heap.size w w' := by
  have hB := ((Below.refl w.heap.size w).alloc (Nat.le_refl _) (.cells #[.int .i64 a, .int .i64 h, .int .u32 id, .slice A n c] 57)).alloc (by simp) (.cells #[.int .i64 z] 3)
  have hq : Blk ((w.alloc (.cells #[.int .i64 a, .int .i64 h, .int .u32 id, .slice A n c] 57)).alloc (.cells #[.int .i64 z] 3)) (w.heap.size + 1) 3 #[.int .i64 z] := by
    have := Blk.new (w.alloc (.cells #[.int .i64 a, .int .i64 h, .int .u32 id, .slice A n c] 57)) 3 #[.int .i64 z]
    simpa using this
  have hg := hq.cellv 0 rfl
  have hgl := hq.lt
  have hS2 : Seen capK ((w.alloc (.cells #[.int .i64 a, .int .i64 h, .int .u32 id, .slice A n c] 57)).alloc (.cells #[.int .i64 z] 3)) (fun b => b < ((w.alloc (.cells #[.int .i64 a, .int .i64 h, .int .u32 id, .slice A n c] 57)).alloc (.cells #[.int .i64 z] 3)).heap.size) A n cs := (hS.below hB fun _ h => h).more fun b hb => Nat.lt_of_lt_of_le hb hB.size
  go_enter Try.func38, Try.ntmps38
  go_wp2_with fail
  refine (containsC_any _ A n c cs z _ hg hgl hS2 hn).mono ?_
  rintro e w' ⟨rfl, hb⟩
  have hB2 := hB.trans (hb.mono hB.size)
  go_wp2_with fail
  go_ret
  exact ⟨rfl, hB2⟩
end Go.Proofs.Ytlpplclhjkbjbaa
