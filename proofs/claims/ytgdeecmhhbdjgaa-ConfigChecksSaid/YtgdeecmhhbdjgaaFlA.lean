/- flows: the keys of the map. -/
import Derived.Test.YtgdeecmhhbdjgaaLib
import Derived.Test.YtgdeecmhhbdjgaaRowS
import Derived.Test.YtgdeecmhhbdjgaaChg
import Derived.BigGuardPart
import Derived.Deep.Cut
import Derived.WalkSpells
import Derived.DeepKeys4
namespace Go.Proofs.Ytgdeecmhhbdjgaa
set_option linter.unusedVariables false
open Go Go.RowKit Go.Maps

/-- a flow. -/
structure Flo where
  pr : Int
  src : Int
  dst : Int
  sp : Int
  dp : Int
deriving DecidableEq
def floV (f : Flo) : Value := .agg #[.int .i64 f.pr, .int .u32 f.src, .int .u32 f.dst, .int .i64 f.sp, .int .i64 f.dp]
def FloOk (f : Flo) : Prop := (Lit.int .i64 f.pr).wf = true ∧ (Lit.int .u32 f.src).wf = true ∧ (Lit.int .u32 f.dst).wf = true ∧ (Lit.int .i64 f.sp).wf = true ∧ (Lit.int .i64 f.dp).wf = true
theorem fkey : Keyed Try.prog 159 := Keyed.of_law (deep_law_laid (m := 3) (by kernel_rfl) (by decide) (of_decide_eq_true (by kernel_rfl)) (by kernel_rfl) (by kernel_rfl))
theorem fmap_und : Try.prog.underlying 164 = some (.map 159 157) := Try.underlying164
@[go_sem] theorem make_fmap (w : World) : (Instr.makeMap 164 none).run Try.prog w = .ok (.map (some w.heap.size)) (w.alloc (.map #[] 0)) := rfl
theorem flink_zero (w : World) : (zeroValue 157).run Try.prog w = .ok (.pointer none) w := by kernel_rfl
theorem keyLits_int {d : Nat} {t : TypeId} {q : IntKind} (h : Try.prog.underlying t = some (.int q)) {n : Int} (hw : (Lit.int q n).wf = true) : Try.prog.keyLits (d + 1) t [.int q n] = some [.int q n] := by
  unfold Program.keyLits
  simp [h, hw]
theorem flo_lit (f : Flo) (h : FloOk f) : ∃ kl, keyOf Try.prog 159 (floV f) = some kl := by
  obtain ⟨h1, h2, h3, h4, h5⟩ := h
  have hs : ∃ m, Try.prog.types.size = m + 2 := ⟨Try.prog.types.size - 2, by kernel_rfl⟩
  obtain ⟨m, hm⟩ := hs
  have hkt : Try.prog.keyType 159 = true := by kernel_rfl
  have c5 : Try.prog.cellsOf 159 = 5 := by kernel_rfl
  have c1 : Try.prog.cellsOf 3 = 1 := by kernel_rfl
  have c2 : Try.prog.cellsOf 22 = 1 := by kernel_rfl
  unfold keyOf
  simp only [Try.underlying159]
  rw [if_pos (by simp [hkt, floV, Value.formed, Try.underlying159, c5]), hm]
  unfold Program.keyLits
  simp only [Try.underlying159, Value.cells, floV]
  rw [if_pos ⟨by rw [c5]; rfl, by kernel_rfl⟩]
  simp only [List.mapM_cons, List.mapM_nil, c1, c2]
  simp [keyLits_int Try.underlying3, keyLits_int Try.underlying22, h1, h2, h3, h4, h5]
end Go.Proofs.Ytgdeecmhhbdjgaa
