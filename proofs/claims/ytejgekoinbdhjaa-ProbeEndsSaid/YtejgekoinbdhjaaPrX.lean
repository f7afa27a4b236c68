/- probe: ProbeEnds, for its row. -/
import Derived.Test.YtejgekoinbdhjaaPrW
namespace Go.Proofs.Ytejgekoinbdhjaa
set_option linter.unusedVariables false
open Go Go.RowKit Go.Maps

theorem wf_u8 {z : Int} (h : (Lit.int .u8 z).wf = true) : 0 ≤ z ∧ z ≤ 255 := by
  simp only [Lit.wf, Bool.and_eq_true, decide_eq_true_eq] at h
  exact h
theorem ends24_law (zs : List Int) (A1 : Option Addr) (n1 c1 : Nat) (l1 : List UInt8) (A2 : Option Addr) (n2 c2 : Nat) (bs : Nat → Bool) (w : World) (hzs : zs.length = 2) (wz : ∀ z ∈ zs, (Lit.int .u8 z).wf = true)
    (_hc1 : n1 ≤ c1) (_hm1 : c1 ≤ maxLen) (hS1 : Byt w w.heap.size A1 n1 l1) (_hc2 : n2 ≤ c2) (_hm2 : c2 ≤ maxLen) (hS2 : Flat w w.heap.size A2 n2 fun j => .bool (bs j)) :
    Calls Try.prog 15 #[.agg (zs.map (Value.int .u8)).toArray, .slice A1 n1 c1, .slice A2 n2 c2] w fun e w' => e = .returned (.bool true) ∧ Below w.heap.size w w' := by
  have key : ∀ zs : List Int, zs.length = 2 → (∀ z ∈ zs, (Lit.int .u8 z).wf = true) → Calls Try.prog 15 #[.agg (zs.map (Value.int .u8)).toArray, .slice A1 n1 c1, .slice A2 n2 c2] w fun e w' => e = .returned (.bool true) ∧ Below w.heap.size w w' := by
    intro zs hzs wz
    match zs, hzs with
    | [ev, pa], _ => exact ends24_walk ev pa A1 n1 c1 l1 A2 n2 c2 bs w (wf_u8 (wz ev (by simp))) (wf_u8 (wz pa (by simp))) hS1 hS2
  exact key zs hzs wz
end Go.Proofs.Ytejgekoinbdhjaa
