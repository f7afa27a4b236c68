import Derived.Test.YtgdeecmhhbdjgaaGreatMVipActs1
import Derived.BigGuardPart
import Derived.Test.YtgdeecmhhbdjgaaGreatRows
/- pool: the pool as it lies in memory; Quorum; small functions. -/
namespace Go.Proofs.YtgdeecmhhbdjgaaGreat
set_option linter.unusedVariables false
open Go Go.RowKit Go.Maps

theorem int_key : Keyed Tryz.prog 3 := int_keyed Tryz.underlying3
theorem int_lit (z : Int) (h0 : -9223372036854775808 ≤ z) (h1 : z ≤ 9223372036854775807) : keyOf Tryz.prog 3 (.int .i64 z) = some (.int .i64 z) :=
  keyOf_int_mk Tryz.underlying3 (by simp only [Lit.wf, Bool.and_eq_true, decide_eq_true_eq]; exact ⟨h0, h1⟩)
structure Mem where
  id : Int
  ad : Int
  wt : Int
  up : Bool
  dr : Bool
def memC (m : Mem) : Array Value := #[.int .i64 m.id, .int .u32 m.ad, .int .i64 m.wt, .bool m.up, .bool m.dr]
def memE (m : Mem) : Value × Value := (.int .i64 m.id, .agg (memC m))
def memD : Value × Value → Mem
  | (_, .agg #[.int _ id, .int _ ad, .int _ wt, .bool up, .bool dr]) => ⟨id, ad, wt, up, dr⟩
  | _ => ⟨0, 0, 0, false, false⟩
def PoolIn (w : World) (g b : Nat) (pc : Int) (M : List Mem) : Prop :=
  Blk w g 230 #[.int .i64 pc, .map (some b)] ∧ Ent Tryz.prog 3 w b (M.map memE)
section
variable {w w' : World} {g b : Nat} {pc : Int} {M : List Mem}
theorem PoolIn.ltg (h : PoolIn w g b pc M) : g < w.heap.size := h.1.lt
theorem PoolIn.ltb (h : PoolIn w g b pc M) : b < w.heap.size := h.2.lt
theorem PoolIn.below {B : Nat} (h : PoolIn w g b pc M) (hb : Below B w w') (h1 : g < B) (h2 : b < B) : PoolIn w' g b pc M := ⟨h.1.below hb h1, h.2.below hb h2⟩
theorem PoolIn.nx (h : PoolIn w g b pc M) (hb : Below w.heap.size w w') : PoolIn w' g b pc M := h.below hb h.ltg h.ltb
theorem PoolIn.alloc (h : PoolIn w g b pc M) (o : Obj) : PoolIn (w.alloc o) g b pc M := ⟨h.1.alloc o, h.2.alloc o⟩
theorem PoolIn.grown {row : Option Nat} (h : PoolIn w g b pc M) (hg : w.grownBy w' row) (h1 : some g ≠ row) (h2 : some b ≠ row) : PoolIn w' g b pc M := ⟨h.1.grown hg h1, h.2.grown hg h2⟩
theorem PoolIn.ne (h : PoolIn w g b pc M) : g ≠ b := by
  intro e
  obtain ⟨h1, es, c, h2, _⟩ := h
  unfold Blk at h1
  rw [e, h2] at h1
  cases h1
end
def goodQ (h t p : Int) : Bool := decide (0 ≤ h) && decide (h ≤ 1000000) && decide (0 ≤ t) && decide (t ≤ 1000000) && decide (0 ≤ p) && decide (p ≤ 1000000)
def quoB (h t p : Int) : Bool := goodQ h t p && (decide (0 < h) && decide (p * t ≤ 100 * h))
set_option maxHeartbeats 2000000 in
theorem quorum_any (w : World) (h t p : Int) : Calls Tryz.prog 183 #[.int .i64 h, .int .i64 t, .int .i64 p] w fun e w' => e = .returned (.bool (quoB h t p)) ∧ w = w' := by
  have i0 : ∀ (x0 x1 x2 : Value) (w : World), (Instr.index 145 (.agg #[x0, x1, x2]) (.int .i64 0)).run Tryz.prog w = .ok x0 w := fun _ _ _ _ => by kernel_rfl
  have i1 : ∀ (x0 x1 x2 : Value) (w : World), (Instr.index 145 (.agg #[x0, x1, x2]) (.int .i64 1)).run Tryz.prog w = .ok x1 w := fun _ _ _ _ => by kernel_rfl
  have i2 : ∀ (x0 x1 x2 : Value) (w : World), (Instr.index 145 (.agg #[x0, x1, x2]) (.int .i64 2)).run Tryz.prog w = .ok x2 w := fun _ _ _ _ => by kernel_rfl
  go_enter Tryz.func183, Tryz.ntmps183
  go_wp2_with fail
  refine wp_loop_rounds 4 ?_
  rw [rounds_succ]
  by_cases h1 : h < 0
  · have d1 : decide (h < 0) = true := by simpa using h1
    have e : quoB h t p = false := by unfold quoB goodQ; simp; omega
    replace e := Lib.hid e
    go_wp2_with fail
    go_ret
    exact ⟨ret_bool e.out.symm, rfl⟩
  by_cases h2 : 1000000 < h
  · have d1 : decide (h < 0) = false := by simpa using h1
    have d2 : decide (1000000 < h) = true := by simpa using h2
    have e : quoB h t p = false := by unfold quoB goodQ; simp; omega
    replace e := Lib.hid e
    go_wp2_with fail
    go_ret
    exact ⟨ret_bool e.out.symm, rfl⟩
  have dh : decide (h < 0) = false := by simpa using h1
  have fh : decide (1000000 < h) = false := by simpa using h2
  go_wp2_with fail
  rw [rounds_succ]
  by_cases t1 : t < 0
  · have d1 : decide (t < 0) = true := by simpa using t1
    have e : quoB h t p = false := by unfold quoB goodQ; simp; omega
    replace e := Lib.hid e
    go_wp2_with fail
    go_ret
    exact ⟨ret_bool e.out.symm, rfl⟩
  by_cases t2 : 1000000 < t
  · have d1 : decide (t < 0) = false := by simpa using t1
    have d2 : decide (1000000 < t) = true := by simpa using t2
    have e : quoB h t p = false := by unfold quoB goodQ; simp; omega
    replace e := Lib.hid e
    go_wp2_with fail
    go_ret
    exact ⟨ret_bool e.out.symm, rfl⟩
  have dt : decide (t < 0) = false := by simpa using t1
  have ft : decide (1000000 < t) = false := by simpa using t2
  go_wp2_with fail
  rw [rounds_succ]
  by_cases p1 : p < 0
  · have d1 : decide (p < 0) = true := by simpa using p1
    have e : quoB h t p = false := by unfold quoB goodQ; simp; omega
    replace e := Lib.hid e
    go_wp2_with fail
    go_ret
    exact ⟨ret_bool e.out.symm, rfl⟩
  by_cases p2 : 1000000 < p
  · have d1 : decide (p < 0) = false := by simpa using p1
    have d2 : decide (1000000 < p) = true := by simpa using p2
    have e : quoB h t p = false := by unfold quoB goodQ; simp; omega
    replace e := Lib.hid e
    go_wp2_with fail
    go_ret
    exact ⟨ret_bool e.out.symm, rfl⟩
  have dp : decide (p < 0) = false := by simpa using p1
  have fp : decide (1000000 < p) = false := by simpa using p2
  go_wp2_with fail
  rw [rounds_succ]
  have e : quoB h t p = (decide (0 < h) && decide (p * t ≤ 100 * h)) := by
    have : goodQ h t p = true := by unfold goodQ; simp; omega
    unfold quoB; rw [this]; rfl
  have hpt : 0 ≤ p * t ∧ p * t ≤ 1000000000000 := ⟨Int.mul_nonneg (by omega) (by omega), by
    have := Int.mul_le_mul (show p ≤ 1000000 by omega) (show t ≤ 1000000 by omega) (by omega) (by omega)
    omega⟩
  have k1 : IntKind.i64.wrap (p * t) = p * t := IntWalk.i64_in _ (by omega)
  have k2 : IntKind.i64.wrap (100 * h) = 100 * h := IntWalk.i64_in _ (by omega)
  replace e := Lib.hid e
  go_wp2_with fail
  all_goals go_ret
  all_goals (refine ⟨ret_bool ?_, rfl⟩; rw [e.out]; by_cases q1 : 0 < h <;> by_cases q2 : p * t ≤ 100 * h <;> simp_all <;> omega)
set_option maxHeartbeats 2000000 in
theorem refQuorum_any (w : World) (h t p : Int) : Calls Tryz.prog 234 #[.int .i64 h, .int .i64 t, .int .i64 p] w fun e w' => e = .returned (.bool (quoB h t p)) ∧ w = w' := by
  have i0 : ∀ (x0 x1 x2 : Value) (w : World), (Instr.index 145 (.agg #[x0, x1, x2]) (.int .i64 0)).run Tryz.prog w = .ok x0 w := fun _ _ _ _ => by kernel_rfl
  have i1 : ∀ (x0 x1 x2 : Value) (w : World), (Instr.index 145 (.agg #[x0, x1, x2]) (.int .i64 1)).run Tryz.prog w = .ok x1 w := fun _ _ _ _ => by kernel_rfl
  have i2 : ∀ (x0 x1 x2 : Value) (w : World), (Instr.index 145 (.agg #[x0, x1, x2]) (.int .i64 2)).run Tryz.prog w = .ok x2 w := fun _ _ _ _ => by kernel_rfl
  go_enter Tryz.func234, Tryz.ntmps234
  go_wp2_with fail
  refine wp_loop_rounds 4 ?_
  rw [rounds_succ]
  by_cases h1 : h < 0
  · have d1 : decide (h < 0) = true := by simpa using h1
    have e : quoB h t p = false := by unfold quoB goodQ; simp; omega
    replace e := Lib.hid e
    go_wp2_with fail
    go_ret
    exact ⟨ret_bool e.out.symm, rfl⟩
  by_cases h2 : 1000000 < h
  · have d1 : decide (h < 0) = false := by simpa using h1
    have d2 : decide (1000000 < h) = true := by simpa using h2
    have e : quoB h t p = false := by unfold quoB goodQ; simp; omega
    replace e := Lib.hid e
    go_wp2_with fail
    go_ret
    exact ⟨ret_bool e.out.symm, rfl⟩
  have dh : decide (h < 0) = false := by simpa using h1
  have fh : decide (1000000 < h) = false := by simpa using h2
  go_wp2_with fail
  rw [rounds_succ]
  by_cases t1 : t < 0
  · have d1 : decide (t < 0) = true := by simpa using t1
    have e : quoB h t p = false := by unfold quoB goodQ; simp; omega
    replace e := Lib.hid e
    go_wp2_with fail
    go_ret
    exact ⟨ret_bool e.out.symm, rfl⟩
  by_cases t2 : 1000000 < t
  · have d1 : decide (t < 0) = false := by simpa using t1
    have d2 : decide (1000000 < t) = true := by simpa using t2
    have e : quoB h t p = false := by unfold quoB goodQ; simp; omega
    replace e := Lib.hid e
    go_wp2_with fail
    go_ret
    exact ⟨ret_bool e.out.symm, rfl⟩
  have dt : decide (t < 0) = false := by simpa using t1
  have ft : decide (1000000 < t) = false := by simpa using t2
  go_wp2_with fail
  rw [rounds_succ]
  by_cases p1 : p < 0
  · have d1 : decide (p < 0) = true := by simpa using p1
    have e : quoB h t p = false := by unfold quoB goodQ; simp; omega
    replace e := Lib.hid e
    go_wp2_with fail
    go_ret
    exact ⟨ret_bool e.out.symm, rfl⟩
  by_cases p2 : 1000000 < p
  · have d1 : decide (p < 0) = false := by simpa using p1
    have d2 : decide (1000000 < p) = true := by simpa using p2
    have e : quoB h t p = false := by unfold quoB goodQ; simp; omega
    replace e := Lib.hid e
    go_wp2_with fail
    go_ret
    exact ⟨ret_bool e.out.symm, rfl⟩
  have dp : decide (p < 0) = false := by simpa using p1
  have fp : decide (1000000 < p) = false := by simpa using p2
  go_wp2_with fail
  rw [rounds_succ]
  have e : quoB h t p = (decide (0 < h) && decide (p * t ≤ 100 * h)) := by
    have : goodQ h t p = true := by unfold goodQ; simp; omega
    unfold quoB; rw [this]; rfl
  have hpt : 0 ≤ p * t ∧ p * t ≤ 1000000000000 := ⟨Int.mul_nonneg (by omega) (by omega), by
    have := Int.mul_le_mul (show p ≤ 1000000 by omega) (show t ≤ 1000000 by omega) (by omega) (by omega)
    omega⟩
  have k1 : IntKind.i64.wrap (p * t) = p * t := IntWalk.i64_in _ (by omega)
  have k2 : IntKind.i64.wrap (100 * h) = 100 * h := IntWalk.i64_in _ (by omega)
  replace e := Lib.hid e
  go_wp2_with fail
  all_goals go_ret
  all_goals (refine ⟨ret_bool ?_, rfl⟩; rw [e.out]; by_cases q1 : 0 < h <;> by_cases q2 : p * t ≤ 100 * h <;> simp_all <;> omega)
end Go.Proofs.YtgdeecmhhbdjgaaGreat

/- policy: Better, and the law PolicyBetter. policy: Good and Attrs, and the document's example (lives). policy: lives. policy: Good of any policy; Attrs at Normal; attr.Good. policy: PolicyFallback. -/
namespace Go.Proofs.YtgdeecmhhbdjgaaGreat.pl
set_option maxRecDepth 100000
set_option linter.unusedVariables false
open Go.RowKit

def cmpV (x y : Int) : Int := if x < y then -1 else if y < x then 1 else 0
def orV (x y z : Int) : Int := if x ≠ 0 then x else if y ≠ 0 then y else z
def attrCs (o : Int) (A : Option Addr) (n c : Nat) (h m : Int) (k : Bool) : Array Value := #[.int .i64 o, .slice A n c, .int .u32 h, .int .i64 m, .bool k]
def medV (m : Int) (k : Bool) : Int := if k then m else 0
def betterV (o1 : Int) (n1 : Nat) (m1 o2 : Int) (n2 : Nat) (m2 : Int) : Bool := decide (n1 < n2 ∨ (n1 = n2 ∧ (o1 < o2 ∨ (o1 = o2 ∧ m1 < m2))))
end Go.Proofs.YtgdeecmhhbdjgaaGreat.pl

namespace Go.Proofs.YtgdeecmhhbdjgaaGreat.pl
set_option maxRecDepth 100000
set_option linter.unusedVariables false
open Go.RowKit

set_option maxHeartbeats 400000 in
theorem in_yes (n l h : Int) (w : World) (h1 : l ≤ n) (h2 : n ≤ h) : Calls Tryz.prog 238 #[.int .i64 n, .int .i64 l, .int .i64 h] w fun e w' => e = .returned (.bool true) ∧ w = w' := by
  go_enter Tryz.func238, Tryz.ntmps238
  go_wp2_with fail
  all_goals go_ret
  all_goals exact ⟨ret_bool (by simp), rfl⟩
def hopOk (h : Int) : Prop := h ≠ 0 ∧ h ≠ 4294967295 ∧ h / 16777216 ≠ 127 ∧ h / 536870912 ≠ 7
def polCs (s h m p b : Int) : Array Value := #[.int .i64 s, .int .u32 h, .int .i64 m, .int .i64 p, .int .i64 b]
def attrZ : Array Value := #[.int .i64 0, .slice none 0 0, .int .u32 0, .int .i64 0, .bool false]
def attrVs (h : Int) (v : Value) (b : Int) : Array Value := #[.int .i64 0, v, .int .u32 h, .int .i64 b, .bool true]
end Go.Proofs.YtgdeecmhhbdjgaaGreat.pl

namespace Go.Proofs.YtgdeecmhhbdjgaaGreat.pl
set_option maxRecDepth 100000
set_option linter.unusedVariables false
open Go.RowKit

end Go.Proofs.YtgdeecmhhbdjgaaGreat.pl

namespace Go.Proofs.YtgdeecmhhbdjgaaGreat.pl
set_option maxRecDepth 100000
set_option linter.unusedVariables false
open Go.RowKit

def inV (n l h : Int) : Bool := decide (l ≤ n) && decide (n ≤ h)
set_option maxHeartbeats 400000 in
theorem in_any (n l h : Int) (w : World) : Calls Tryz.prog 238 #[.int .i64 n, .int .i64 l, .int .i64 h] w fun e w' => e = .returned (.bool (inV n l h)) ∧ w = w' := by
  go_enter Tryz.func238, Tryz.ntmps238
  go_wp2_with fail
  all_goals go_ret
  all_goals (refine ⟨ret_bool ?_, rfl⟩; simp only [inV]; simp; try omega)
def hopV (h : Int) : Bool := (h != 0) && (h != 4294967295) && (h / 16777216 != 127) && (h / 536870912 != 7)
set_option maxHeartbeats 400000 in
theorem hop_any (h : Int) (w : World) (h0 : 0 ≤ h) (h1 : h ≤ 4294967295) : Calls Tryz.prog 207 #[.int .u32 h] w fun e w' => e = .returned (.bool (hopV h)) ∧ w = w' := by
  go_enter Tryz.func207, Tryz.ntmps207
  go_wp2_with fail
  all_goals go_ret
  all_goals (refine ⟨ret_bool ?_, rfl⟩; simp_all [hopV])
def goodV (s h m p b : Int) : Bool := inV s 1 65535 && hopV h && inV m 0 4294967295 && inV b 0 4294967295 && inV p 0 15
set_option maxHeartbeats 800000 in
theorem good_any (s h m p b : Int) (w : World) (h0 : 0 ≤ h) (h1 : h ≤ 4294967295) : Calls Tryz.prog 205 #[.agg #[.int .i64 s, .int .u32 h, .int .i64 m, .int .i64 p, .int .i64 b]] w fun e w' => e = .returned (.bool (goodV s h m p b)) ∧ Below w.heap.size w w' := by
  have hB : Below w.heap.size w (w.alloc (.cells (polCs s h m p b) 253)) := ((Below.refl _ _).alloc (Nat.le_refl _) _)
  go_enter Tryz.func205, Tryz.ntmps205
  cases e1 : inV s 1 65535 <;> cases e2 : hopV h <;> cases e3 : inV m 0 4294967295 <;> cases e4 : inV b 0 4294967295 <;>
  go_wp2_with (first
    | (go_at_call 238; refine (in_any _ _ _ _).mono ?_; rintro e w' ⟨rfl, rfl⟩; simp only [e1, e3, e4])
    | (go_at_call 207; refine (hop_any _ _ h0 h1).mono ?_; rintro e w' ⟨rfl, rfl⟩; simp only [e2]))
  all_goals go_ret
  all_goals exact ⟨ret_bool (by simp [goodV, e1, e2, e3, e4]), hB⟩

end Go.Proofs.YtgdeecmhhbdjgaaGreat.pl

namespace Go.Proofs.YtgdeecmhhbdjgaaGreat.pl
set_option maxRecDepth 100000
set_option linter.unusedVariables false
open Go.RowKit

end Go.Proofs.YtgdeecmhhbdjgaaGreat.pl
