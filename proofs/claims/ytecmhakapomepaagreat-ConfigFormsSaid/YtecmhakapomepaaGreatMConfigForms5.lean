import Derived.Test.YtecmhakapomepaaGreatMConfigForms1
import Derived.BigGuardPart
import Derived.Test.YtecmhakapomepaaGreatRows
/- pool: the pool as it lies in memory; Quorum; small functions. -/
namespace Go.Proofs.YtecmhakapomepaaGreat
set_option linter.unusedVariables false
open Go Go.RowKit Go.Maps

theorem int_key : Keyed Tryz.prog 3 := int_keyed Tryz.underlying3
theorem int_lit (z : Int) (h0 : -9223372036854775808 ≤ z) (h1 : z ≤ 9223372036854775807) : keyOf Tryz.prog 3 (.int .i64 z) = some (.int .i64 z) :=
  keyOf_int_mk Tryz.underlying3 (by simp only [Lit.wf, Bool.and_eq_true, decide_eq_true_eq]; exact ⟨h0, h1⟩)
/-- a member of a pool. -/
structure Mem where
  id : Int
  ad : Int
  wt : Int
  up : Bool
  dr : Bool
def memC (m : Mem) : Array Value := #[.int .i64 m.id, .int .u32 m.ad, .int .i64 m.wt, .bool m.up, .bool m.dr]
def memE (m : Mem) : Value × Value := (.int .i64 m.id, .agg (memC m))
def memD : Value × Value → Mem
  | (_, .agg #[.int _ id, .int _ ad, .int _ wt, .bool up, .bool dr]) => ⟨id, ad, wt, up, dr⟩
  | _ => ⟨0, 0, 0, false, false⟩
/-- block g is a pool, whose members are the entries of the map in block b. -/
def PoolIn (w : World) (g b : Nat) (pc : Int) (M : List Mem) : Prop :=
  Blk w g 228 #[.int .i64 pc, .map (some b)] ∧ Ent Tryz.prog 3 w b (M.map memE)
section
variable {w w' : World} {g b : Nat} {pc : Int} {M : List Mem}
theorem PoolIn.ltg (h : PoolIn w g b pc M) : g < w.heap.size := h.1.lt
theorem PoolIn.ltb (h : PoolIn w g b pc M) : b < w.heap.size := h.2.lt
theorem PoolIn.below {B : Nat} (h : PoolIn w g b pc M) (hb : Below B w w') (h1 : g < B) (h2 : b < B) : PoolIn w' g b pc M := ⟨h.1.below hb h1, h.2.below hb h2⟩
theorem PoolIn.nx (h : PoolIn w g b pc M) (hb : Below w.heap.size w w') : PoolIn w' g b pc M := h.below hb h.ltg h.ltb
theorem PoolIn.alloc (h : PoolIn w g b pc M) (o : Obj) : PoolIn (w.alloc o) g b pc M := ⟨h.1.alloc o, h.2.alloc o⟩
theorem PoolIn.grown {row : Option Nat} (h : PoolIn w g b pc M) (hg : w.grownBy w' row) (h1 : some g ≠ row) (h2 : some b ≠ row) : PoolIn w' g b pc M := ⟨h.1.grown hg h1, h.2.grown hg h2⟩
theorem PoolIn.ne (h : PoolIn w g b pc M) : g ≠ b := by
  intro e
  obtain ⟨h1, es, c, h2, _⟩ := h
  unfold Blk at h1
  rw [e, h2] at h1
  cases h1
end
def goodQ (h t p : Int) : Bool := decide (0 ≤ h) && decide (h ≤ 1000000) && decide (0 ≤ t) && decide (t ≤ 1000000) && decide (0 ≤ p) && decide (p ≤ 1000000)
/-- are these enough? -/
def quoB (h t p : Int) : Bool := goodQ h t p && (decide (0 < h) && decide (p * t ≤ 100 * h))
end Go.Proofs.YtecmhakapomepaaGreat

/- policy: Better, and the law PolicyBetter. policy: Good and Attrs, and the document's example (lives). policy: lives. policy: Good of any policy; Attrs at Normal; attr.Good. policy: PolicyFallback. -/
namespace Go.Proofs.YtecmhakapomepaaGreat.pl
set_option maxRecDepth 100000
set_option linter.unusedVariables false
open Go.RowKit

def cmpV (x y : Int) : Int := if x < y then -1 else if y < x then 1 else 0
def orV (x y z : Int) : Int := if x ≠ 0 then x else if y ≠ 0 then y else z
def attrCs (o : Int) (A : Option Addr) (n c : Nat) (h m : Int) (k : Bool) : Array Value := #[.int .i64 o, .slice A n c, .int .u32 h, .int .i64 m, .bool k]
def medV (m : Int) (k : Bool) : Int := if k then m else 0
def betterV (o1 : Int) (n1 : Nat) (m1 o2 : Int) (n2 : Nat) (m2 : Int) : Bool := decide (n1 < n2 ∨ (n1 = n2 ∧ (o1 < o2 ∨ (o1 = o2 ∧ m1 < m2))))
end Go.Proofs.YtecmhakapomepaaGreat.pl

namespace Go.Proofs.YtecmhakapomepaaGreat.pl
set_option maxRecDepth 100000
set_option linter.unusedVariables false
open Go.RowKit

set_option maxHeartbeats 400000 in
theorem in_yes (n l h : Int) (w : World) (h1 : l ≤ n) (h2 : n ≤ h) : Calls Tryz.prog 113 #[.int .i64 n, .int .i64 l, .int .i64 h] w fun e w' => e = .returned (.bool true) ∧ w = w' := by
  go_enter Tryz.func113, Tryz.ntmps113
  go_wp2_with fail
  all_goals go_ret
  all_goals exact ⟨ret_bool (by simp), rfl⟩
def hopOk (h : Int) : Prop := h ≠ 0 ∧ h ≠ 4294967295 ∧ h / 16777216 ≠ 127 ∧ h / 536870912 ≠ 7
def polCs (s h m p b : Int) : Array Value := #[.int .i64 s, .int .u32 h, .int .i64 m, .int .i64 p, .int .i64 b]
def attrZ : Array Value := #[.int .i64 0, .slice none 0 0, .int .u32 0, .int .i64 0, .bool false]
def attrVs (h : Int) (v : Value) (b : Int) : Array Value := #[.int .i64 0, v, .int .u32 h, .int .i64 b, .bool true]
end Go.Proofs.YtecmhakapomepaaGreat.pl

namespace Go.Proofs.YtecmhakapomepaaGreat.pl
set_option maxRecDepth 100000
set_option linter.unusedVariables false
open Go.RowKit

end Go.Proofs.YtecmhakapomepaaGreat.pl

namespace Go.Proofs.YtecmhakapomepaaGreat.pl
set_option maxRecDepth 100000
set_option linter.unusedVariables false
open Go.RowKit

def inV (n l h : Int) : Bool := decide (l ≤ n) && decide (n ≤ h)
set_option maxHeartbeats 400000 in
theorem in_any (n l h : Int) (w : World) : Calls Tryz.prog 113 #[.int .i64 n, .int .i64 l, .int .i64 h] w fun e w' => e = .returned (.bool (inV n l h)) ∧ w = w' := by
  go_enter Tryz.func113, Tryz.ntmps113
  go_wp2_with fail
  all_goals go_ret
  all_goals (refine ⟨ret_bool ?_, rfl⟩; simp only [inV]; simp; try omega)
def hopV (h : Int) : Bool := (h != 0) && (h != 4294967295) && (h / 16777216 != 127) && (h / 536870912 != 7)
set_option maxHeartbeats 400000 in
theorem hop_any (h : Int) (w : World) (h0 : 0 ≤ h) (h1 : h ≤ 4294967295) : Calls Tryz.prog 86 #[.int .u32 h] w fun e w' => e = .returned (.bool (hopV h)) ∧ w = w' := by
  go_enter Tryz.func86, Tryz.ntmps86
  go_wp2_with fail
  all_goals go_ret
  all_goals (refine ⟨ret_bool ?_, rfl⟩; simp_all [hopV])
def goodV (s h m p b : Int) : Bool := inV s 1 65535 && hopV h && inV m 0 4294967295 && inV b 0 4294967295 && inV p 0 15
set_option maxHeartbeats 800000 in
theorem good_any (s h m p b : Int) (w : World) (h0 : 0 ≤ h) (h1 : h ≤ 4294967295) : Calls Tryz.prog 84 #[.agg #[.int .i64 s, .int .u32 h, .int .i64 m, .int .i64 p, .int .i64 b]] w fun e w' => e = .returned (.bool (goodV s h m p b)) ∧ Below w.heap.size w w' := by
  have hB : Below w.heap.size w (w.alloc (.cells (polCs s h m p b) 135)) := ((Below.refl _ _).alloc (Nat.le_refl _) _)
  go_enter Tryz.func84, Tryz.ntmps84
  cases e1 : inV s 1 65535 <;> cases e2 : hopV h <;> cases e3 : inV m 0 4294967295 <;> cases e4 : inV b 0 4294967295 <;>
  go_wp2_with (first
    | (go_at_call 113; refine (in_any _ _ _ _).mono ?_; rintro e w' ⟨rfl, rfl⟩; simp only [e1, e3, e4])
    | (go_at_call 86; refine (hop_any _ _ h0 h1).mono ?_; rintro e w' ⟨rfl, rfl⟩; simp only [e2]))
  all_goals go_ret
  all_goals exact ⟨ret_bool (by simp [goodV, e1, e2, e3, e4]), hB⟩

end Go.Proofs.YtecmhakapomepaaGreat.pl

namespace Go.Proofs.YtecmhakapomepaaGreat.pl
set_option maxRecDepth 100000
set_option linter.unusedVariables false
open Go.RowKit

end Go.Proofs.YtecmhakapomepaaGreat.pl
