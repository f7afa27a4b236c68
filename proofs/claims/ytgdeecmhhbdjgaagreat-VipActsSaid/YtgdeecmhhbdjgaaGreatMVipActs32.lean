import Derived.Test.YtgdeecmhhbdjgaaGreatMVipActs31
import Derived.Laws.StructEq
/- config: ConfigChecks, the walk. -/
namespace Go.Proofs.YtgdeecmhhbdjgaaGreat
set_option linter.unusedVariables false
open Go Go.RowKit Go.Maps

@[go_sem high] theorem neq_rpol (p0 p1 p2 p3 p4 : Int) (w : World) : (binOp .neq 276 (.agg #[.int .i64 p0, .int .u32 p1, .int .i64 p2, .int .i64 p3, .int .i64 p4]) (.agg #[.int .i64 p0, .int .u32 p1, .int .i64 p2, .int .i64 p3, .int .i64 p4])).run Tryz.prog w = .ok (.bool false) w := by
  go_simp
@[go_sem high] theorem neq_rspk (s0 s1 s2 s3 s4 s5 s6 : Int) (w : World) : (binOp .neq 272 (.agg #[.int .i64 s0, .int .i64 s1, .int .u32 s2, .int .i64 s3, .int .i64 s4, .int .i64 s5, .int .i64 s6]) (.agg #[.int .i64 s0, .int .i64 s1, .int .u32 s2, .int .i64 s3, .int .i64 s4, .int .i64 s5, .int .i64 s6])).run Tryz.prog w = .ok (.bool false) w := by
  go_simp
@[go_sem high] theorem neq_pfx (a b : Int) (w : World) : (binOp .neq 57 (.agg #[.int .u32 a, .int .i64 b]) (.agg #[.int .u32 a, .int .i64 b])).run Tryz.prog w = .ok (.bool false) w := by
  go_simp
set_option maxRecDepth 100000 in
set_option maxHeartbeats 8000000 in
theorem prefixC_any (w : World) (v : VipV) : Calls Tryz.prog 105 #[.agg #[.int .u32 v.ad, .int .i64 v.pct, .slice v.A v.n v.c]] w fun e w' => e = .returned (.agg #[.int .u32 v.ad, .int .i64 32]) ∧ Below w.heap.size w w' := by
  have hi : (Tryz.prog.info? 57).map (·.size) = some 2 := by kernel_rfl
  go_enter Tryz.func105, Tryz.ntmps105
  go_wp2_with fail
  have hk : Blk ((w.alloc (.cells #[.int .u32 v.ad, .int .i64 v.pct, .slice v.A v.n v.c] 109)).alloc (.cells #[.int .u32 v.ad, .int .i64 32] 57)) (w.heap.size + 1) 57 #[.int .u32 v.ad, .int .i64 32] := by
    have := Blk.new (w.alloc (.cells #[.int .u32 v.ad, .int .i64 v.pct, .slice v.A v.n v.c] 109)) 57 #[.int .u32 v.ad, .int .i64 32]
    simpa using this
  exact bodyPost_ret (results_c rfl _ rfl (load_blk hk Tryz.underlying57 rfl hi)) rfl ⟨rfl, ((Below.refl w.heap.size w).alloc (Nat.le_refl _) _).alloc (by simp) _⟩
end Go.Proofs.YtgdeecmhhbdjgaaGreat
