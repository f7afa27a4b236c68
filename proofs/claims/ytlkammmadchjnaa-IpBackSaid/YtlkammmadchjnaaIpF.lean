/- ip: plain, bytes.Equal. -/
import Derived.Test.YtlkammmadchjnaaIpE
import Derived.Deep.MidRow
namespace Go.Proofs.Ytlkammmadchjnaa
set_option linter.unusedVariables false
open Go.RowKit

theorem results_cell {P : Program} {fn : Func} {a : Tmp} {ty : TypeId} {w : World} {ad : Addr} {v : Value} (h : fn.results = #[.cell a ty]) (tmps : Array Value) (ha : tmps.getD a undef = .pointer (some ad)) (hl : (loadVar ty ad).run P w = .ok v w) :
    (results fn tmps).run P w = .ok v w := by
  have ha2 := ha
  simp only [Array.getD_eq_getD_getElem?] at ha2
  simp [results, h, ha2, asAddr, hl]
set_option maxHeartbeats 1000000 in
theorem plain_any (t i f g l p s d : Int) (A : Option Addr) (n c : Nat) (w : World) :
    Calls Try.prog 10 #[.agg #[.int .i64 t, .int .i64 i, .int .i64 f, .int .i64 g, .int .i64 l, .int .i64 p, .int .u32 s, .int .u32 d, .slice A n c]] w fun e w' => e = .returned (.agg #[.int .i64 t, .int .i64 i, .int .i64 f, .int .i64 g, .int .i64 l, .int .i64 p, .int .u32 s, .int .u32 d, .slice A n c]) ∧ Below w.heap.size w w' := by
  have hB := ((Below.refl w.heap.size w).alloc (Nat.le_refl _) (.cells (hdrCs t i f g l p s d A n c) 25)).alloc (by simp) (.cells (hdrCs t i f g l p s d A n c) 29)
  have hk := Blk.new (w.alloc (.cells (hdrCs t i f g l p s d A n c) 25)) 29 (hdrCs t i f g l p s d A n c)
  rw [World.size_alloc] at hk
  unfold hdrCs at hB hk
  go_enter Try.func10, Try.ntmps10
  go_wp2_with fail
  refine bodyPost_ret (results_cell rfl _ rfl (run_loadVar_mid _ _ _ _ [.int .i64 t, .int .i64 i, .int .i64 f, .int .i64 g, .int .i64 l, .int .i64 p, .int .u32 s, .int .u32 d, .slice A n c] _ (fun j v hj => by rw [Nat.zero_add, hk.cell]; simpa using hj) Try.underlying29 rfl (by kernel_rfl))) rfl ?_
  exact ⟨rfl, hB⟩
end Go.Proofs.Ytlkammmadchjnaa
