/- pool: Eligible and All, by ids. -/
import Derived.Test.YtgdeecmhhbdjgaaPoE
import Derived.Test.YtgdeecmhhbdjgaaSrt
namespace Go.Proofs.Ytgdeecmhhbdjgaa
set_option linter.unusedVariables false
open Go Go.RowKit Go.Maps

/-- backends as elements of rows: id, address, weight. -/
def bkK : RK (Int × Int × Int) where
  size := 3
  cel b := [.int .i64 b.1, .int .u32 b.2.1, .int .i64 b.2.2]
  ok _ _ _ := True
  pos := by omega
  len _ := rfl
  one _ u hu := by simp at hu; rcases hu with rfl | rfl | rfl <;> rfl
  keep _ _ := trivial
  more _ _ := trivial
theorem bk_ok : ElemOk Try.prog 58 114 bkK.size 24 (.agg #[.int .i64 0, .int .u32 0, .int .i64 0]) := ⟨Try.underlying58, by kernel_rfl, rfl, bkK.pos⟩
def bkOf (m : Mem) : Int × Int × Int := (m.id, m.ad, m.wt)
/-- the backends of those that are so. -/
def selB (so : Mem → Bool) (L : List Mem) : List (Int × Int × Int) := (L.filter so).map bkOf
theorem selB_take (so : Mem → Bool) (L : List Mem) (k : Nat) (m : Mem) (h : L[k]? = some m) : selB so (L.take (k + 1)) = selB so (L.take k) ++ (if so m then [bkOf m] else []) := by
  unfold selB
  rw [List.take_add_one, h, Option.toList_some, List.filter_append, List.map_append]
  congr 1
  by_cases hm : so m <;> simp [hm]
theorem selB_len (so : Mem → Bool) (L : List Mem) : (selB so L).length ≤ L.length := by
  unfold selB
  rw [List.length_map]
  exact List.length_filter_le _ _
/-- sorted by ids, each once. -/
def ById (L : List Mem) : Prop := L.Pairwise fun a b => a.id < b.id
theorem ids_sorted {L M : List Mem} (hp : L.Perm M) (hs : ById L) : (M.map Mem.id).mergeSort leI = L.map Mem.id := by
  have h1 : (M.map Mem.id).mergeSort leI = (L.map Mem.id).mergeSort leI := mergeSort_of_perm_i (hp.symm.map _)
  rw [h1]
  refine List.mergeSort_of_pairwise ?_
  refine List.pairwise_map.2 (hs.imp fun {a b} h => ?_)
  simp only [leI, decide_eq_true_eq]
  omega
theorem memE_fst (M : List Mem) : (M.map memE).map Prod.fst = (M.map Mem.id).map (Value.int .i64) := by
  rw [List.map_map, List.map_map]; rfl
end Go.Proofs.Ytgdeecmhhbdjgaa
