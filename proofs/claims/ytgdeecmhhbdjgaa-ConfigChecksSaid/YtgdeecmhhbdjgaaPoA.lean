/- pool: the pool as it lies in memory; Quorum; small functions. -/
import Derived.Test.YtgdeecmhhbdjgaaLib
import Derived.BigGuardPart
namespace Go.Proofs.Ytgdeecmhhbdjgaa
set_option linter.unusedVariables false
open Go Go.RowKit Go.Maps

theorem int_key : Keyed Try.prog 3 := int_keyed Try.underlying3
theorem int_lit (z : Int) (h0 : -9223372036854775808 ≤ z) (h1 : z ≤ 9223372036854775807) : keyOf Try.prog 3 (.int .i64 z) = some (.int .i64 z) :=
  keyOf_int_mk Try.underlying3 (by simp only [Lit.wf, Bool.and_eq_true, decide_eq_true_eq]; exact ⟨h0, h1⟩)
/-- a member of a pool. -/
structure Mem where
  id : Int
  ad : Int
  wt : Int
  up : Bool
  dr : Bool
def memC (m : Mem) : Array Value := #[.int .i64 m.id, .int .u32 m.ad, .int .i64 m.wt, .bool m.up, .bool m.dr]
def memE (m : Mem) : Value × Value := (.int .i64 m.id, .agg (memC m))
def memD : Value × Value → Mem
  | (_, .agg #[.int _ id, .int _ ad, .int _ wt, .bool up, .bool dr]) => ⟨id, ad, wt, up, dr⟩
  | _ => ⟨0, 0, 0, false, false⟩
theorem memD_E (m : Mem) : memD (memE m) = m := rfl
/-- block g is a pool, whose members are the entries of the map in block b. -/
def PoolIn (w : World) (g b : Nat) (pc : Int) (M : List Mem) : Prop :=
  Blk w g 177 #[.int .i64 pc, .map (some b)] ∧ Ent Try.prog 3 w b (M.map memE)
section
variable {w w' : World} {g b : Nat} {pc : Int} {M : List Mem}
theorem PoolIn.ltg (h : PoolIn w g b pc M) : g < w.heap.size := h.1.lt
theorem PoolIn.ltb (h : PoolIn w g b pc M) : b < w.heap.size := h.2.lt
theorem PoolIn.below {B : Nat} (h : PoolIn w g b pc M) (hb : Below B w w') (h1 : g < B) (h2 : b < B) : PoolIn w' g b pc M := ⟨h.1.below hb h1, h.2.below hb h2⟩
theorem PoolIn.nx (h : PoolIn w g b pc M) (hb : Below w.heap.size w w') : PoolIn w' g b pc M := h.below hb h.ltg h.ltb
theorem PoolIn.alloc (h : PoolIn w g b pc M) (o : Obj) : PoolIn (w.alloc o) g b pc M := ⟨h.1.alloc o, h.2.alloc o⟩
theorem PoolIn.grown {row : Option Nat} (h : PoolIn w g b pc M) (hg : w.grownBy w' row) (h1 : some g ≠ row) (h2 : some b ≠ row) : PoolIn w' g b pc M := ⟨h.1.grown hg h1, h.2.grown hg h2⟩
theorem PoolIn.ne (h : PoolIn w g b pc M) : g ≠ b := by
  intro e
  obtain ⟨h1, es, c, h2, _⟩ := h
  unfold Blk at h1
  rw [e, h2] at h1
  cases h1
end
def goodQ (h t p : Int) : Bool := decide (0 ≤ h) && decide (h ≤ 1000000) && decide (0 ≤ t) && decide (t ≤ 1000000) && decide (0 ≤ p) && decide (p ≤ 1000000)
/-- are these enough? -/
def quoB (h t p : Int) : Bool := goodQ h t p && (decide (0 < h) && decide (p * t ≤ 100 * h))
end Go.Proofs.Ytgdeecmhhbdjgaa
