/- pool: the pool as it lies in memory; Quorum; small functions. -/
import Derived.Test.YtejgekoinbdhjaaLib
import Derived.BigGuardPart
namespace Go.Proofs.Ytejgekoinbdhjaa
set_option linter.unusedVariables false
open Go Go.RowKit Go.Maps

theorem int_key : Keyed Try.prog 3 := int_keyed Try.underlying3
theorem int_lit (z : Int) (h0 : -9223372036854775808 ≤ z) (h1 : z ≤ 9223372036854775807) : keyOf Try.prog 3 (.int .i64 z) = some (.int .i64 z) :=
  keyOf_int_mk Try.underlying3 (by simp only [Lit.wf, Bool.and_eq_true, decide_eq_true_eq]; exact ⟨h0, h1⟩)
/-- a member of a pool. -/
structure Mem where
  id : Int
  ad : Int
  wt : Int
  up : Bool
  dr : Bool
def memC (m : Mem) : Array Value := #[.int .i64 m.id, .int .u32 m.ad, .int .i64 m.wt, .bool m.up, .bool m.dr]
def memE (m : Mem) : Value × Value := (.int .i64 m.id, .agg (memC m))
def memD : Value × Value → Mem
  | (_, .agg #[.int _ id, .int _ ad, .int _ wt, .bool up, .bool dr]) => ⟨id, ad, wt, up, dr⟩
  | _ => ⟨0, 0, 0, false, false⟩
theorem memD_E (m : Mem) : memD (memE m) = m := rfl
/-- block g is a pool, whose members are the entries of the map in block b. -/
def PoolIn (w : World) (g b : Nat) (pc : Int) (M : List Mem) : Prop :=
  Blk w g 31 #[.int .i64 pc, .map (some b)] ∧ Ent Try.prog 3 w b (M.map memE)
section
variable {w w' : World} {g b : Nat} {pc : Int} {M : List Mem}
theorem PoolIn.ltg (h : PoolIn w g b pc M) : g < w.heap.size := h.1.lt
theorem PoolIn.ltb (h : PoolIn w g b pc M) : b < w.heap.size := h.2.lt
theorem PoolIn.below {B : Nat} (h : PoolIn w g b pc M) (hb : Below B w w') (h1 : g < B) (h2 : b < B) : PoolIn w' g b pc M := ⟨h.1.below hb h1, h.2.below hb h2⟩
theorem PoolIn.nx (h : PoolIn w g b pc M) (hb : Below w.heap.size w w') : PoolIn w' g b pc M := h.below hb h.ltg h.ltb
theorem PoolIn.alloc (h : PoolIn w g b pc M) (o : Obj) : PoolIn (w.alloc o) g b pc M := ⟨h.1.alloc o, h.2.alloc o⟩
theorem PoolIn.grown {row : Option Nat} (h : PoolIn w g b pc M) (hg : w.grownBy w' row) (h1 : some g ≠ row) (h2 : some b ≠ row) : PoolIn w' g b pc M := ⟨h.1.grown hg h1, h.2.grown hg h2⟩
theorem PoolIn.ne (h : PoolIn w g b pc M) : g ≠ b := by
  intro e
  obtain ⟨h1, es, c, h2, _⟩ := h
  unfold Blk at h1
  rw [e, h2] at h1
  cases h1
end
def goodQ (h t p : Int) : Bool := decide (0 ≤ h) && decide (h ≤ 1000000) && decide (0 ≤ t) && decide (t ≤ 1000000) && decide (0 ≤ p) && decide (p ≤ 1000000)
/-- are these enough? -/
def quoB (h t p : Int) : Bool := goodQ h t p && (decide (0 < h) && decide (p * t ≤ 100 * h))
set_option maxHeartbeats 2000000 in
theorem quorum_any (w : World) (h t p : Int) : Calls Try.prog 16 #[.int .i64 h, .int .i64 t, .int .i64 p] w fun e w' => e = .returned (.bool (quoB h t p)) ∧ w = w' := by
  have i0 : ∀ (x0 x1 x2 : Value) (w : World), (Instr.index 155 (.agg #[x0, x1, x2]) (.int .i64 0)).run Try.prog w = .ok x0 w := fun _ _ _ _ => by kernel_rfl
  have i1 : ∀ (x0 x1 x2 : Value) (w : World), (Instr.index 155 (.agg #[x0, x1, x2]) (.int .i64 1)).run Try.prog w = .ok x1 w := fun _ _ _ _ => by kernel_rfl
  have i2 : ∀ (x0 x1 x2 : Value) (w : World), (Instr.index 155 (.agg #[x0, x1, x2]) (.int .i64 2)).run Try.prog w = .ok x2 w := fun _ _ _ _ => by kernel_rfl
  go_enter Try.func16, Try.ntmps16
  go_wp2_with fail
  refine wp_loop_rounds 4 ?_
  rw [rounds_succ]
  by_cases h1 : h < 0
  · have d1 : decide (h < 0) = true := by simpa using h1
    have e : quoB h t p = false := by unfold quoB goodQ; simp; omega
    replace e := Lib.hid e
    go_wp2_with fail
    go_ret
    exact ⟨ret_bool e.out.symm, rfl⟩
  by_cases h2 : 1000000 < h
  · have d1 : decide (h < 0) = false := by simpa using h1
    have d2 : decide (1000000 < h) = true := by simpa using h2
    have e : quoB h t p = false := by unfold quoB goodQ; simp; omega
    replace e := Lib.hid e
    go_wp2_with fail
    go_ret
    exact ⟨ret_bool e.out.symm, rfl⟩
  have dh : decide (h < 0) = false := by simpa using h1
  have fh : decide (1000000 < h) = false := by simpa using h2
  go_wp2_with fail
  rw [rounds_succ]
  by_cases t1 : t < 0
  · have d1 : decide (t < 0) = true := by simpa using t1
    have e : quoB h t p = false := by unfold quoB goodQ; simp; omega
    replace e := Lib.hid e
    go_wp2_with fail
    go_ret
    exact ⟨ret_bool e.out.symm, rfl⟩
  by_cases t2 : 1000000 < t
  · have d1 : decide (t < 0) = false := by simpa using t1
    have d2 : decide (1000000 < t) = true := by simpa using t2
    have e : quoB h t p = false := by unfold quoB goodQ; simp; omega
    replace e := Lib.hid e
    go_wp2_with fail
    go_ret
    exact ⟨ret_bool e.out.symm, rfl⟩
  have dt : decide (t < 0) = false := by simpa using t1
  have ft : decide (1000000 < t) = false := by simpa using t2
  go_wp2_with fail
  rw [rounds_succ]
  by_cases p1 : p < 0
  · have d1 : decide (p < 0) = true := by simpa using p1
    have e : quoB h t p = false := by unfold quoB goodQ; simp; omega
    replace e := Lib.hid e
    go_wp2_with fail
    go_ret
    exact ⟨ret_bool e.out.symm, rfl⟩
  by_cases p2 : 1000000 < p
  · have d1 : decide (p < 0) = false := by simpa using p1
    have d2 : decide (1000000 < p) = true := by simpa using p2
    have e : quoB h t p = false := by unfold quoB goodQ; simp; omega
    replace e := Lib.hid e
    go_wp2_with fail
    go_ret
    exact ⟨ret_bool e.out.symm, rfl⟩
  have dp : decide (p < 0) = false := by simpa using p1
  have fp : decide (1000000 < p) = false := by simpa using p2
  go_wp2_with fail
  rw [rounds_succ]
  have e : quoB h t p = (decide (0 < h) && decide (p * t ≤ 100 * h)) := by
    have : goodQ h t p = true := by unfold goodQ; simp; omega
    unfold quoB; rw [this]; rfl
  have hpt : 0 ≤ p * t ∧ p * t ≤ 1000000000000 := ⟨Int.mul_nonneg (by omega) (by omega), by
    have := Int.mul_le_mul (show p ≤ 1000000 by omega) (show t ≤ 1000000 by omega) (by omega) (by omega)
    omega⟩
  have k1 : IntKind.i64.wrap (p * t) = p * t := IntWalk.i64_in _ (by omega)
  have k2 : IntKind.i64.wrap (100 * h) = 100 * h := IntWalk.i64_in _ (by omega)
  replace e := Lib.hid e
  go_wp2_with fail
  all_goals go_ret
  all_goals (refine ⟨ret_bool ?_, rfl⟩; rw [e.out]; by_cases q1 : 0 < h <;> by_cases q2 : p * t ≤ 100 * h <;> simp_all <;> omega)
set_option maxHeartbeats 2000000 in
theorem refQuorum_any (w : World) (h t p : Int) : Calls Try.prog 17 #[.int .i64 h, .int .i64 t, .int .i64 p] w fun e w' => e = .returned (.bool (quoB h t p)) ∧ w = w' := by
  have i0 : ∀ (x0 x1 x2 : Value) (w : World), (Instr.index 155 (.agg #[x0, x1, x2]) (.int .i64 0)).run Try.prog w = .ok x0 w := fun _ _ _ _ => by kernel_rfl
  have i1 : ∀ (x0 x1 x2 : Value) (w : World), (Instr.index 155 (.agg #[x0, x1, x2]) (.int .i64 1)).run Try.prog w = .ok x1 w := fun _ _ _ _ => by kernel_rfl
  have i2 : ∀ (x0 x1 x2 : Value) (w : World), (Instr.index 155 (.agg #[x0, x1, x2]) (.int .i64 2)).run Try.prog w = .ok x2 w := fun _ _ _ _ => by kernel_rfl
  go_enter Try.func17, Try.ntmps17
  go_wp2_with fail
  refine wp_loop_rounds 4 ?_
  rw [rounds_succ]
  by_cases h1 : h < 0
  · have d1 : decide (h < 0) = true := by simpa using h1
    have e : quoB h t p = false := by unfold quoB goodQ; simp; omega
    replace e := Lib.hid e
    go_wp2_with fail
    go_ret
    exact ⟨ret_bool e.out.symm, rfl⟩
  by_cases h2 : 1000000 < h
  · have d1 : decide (h < 0) = false := by simpa using h1
    have d2 : decide (1000000 < h) = true := by simpa using h2
    have e : quoB h t p = false := by unfold quoB goodQ; simp; omega
    replace e := Lib.hid e
    go_wp2_with fail
    go_ret
    exact ⟨ret_bool e.out.symm, rfl⟩
  have dh : decide (h < 0) = false := by simpa using h1
  have fh : decide (1000000 < h) = false := by simpa using h2
  go_wp2_with fail
  rw [rounds_succ]
  by_cases t1 : t < 0
  · have d1 : decide (t < 0) = true := by simpa using t1
    have e : quoB h t p = false := by unfold quoB goodQ; simp; omega
    replace e := Lib.hid e
    go_wp2_with fail
    go_ret
    exact ⟨ret_bool e.out.symm, rfl⟩
  by_cases t2 : 1000000 < t
  · have d1 : decide (t < 0) = false := by simpa using t1
    have d2 : decide (1000000 < t) = true := by simpa using t2
    have e : quoB h t p = false := by unfold quoB goodQ; simp; omega
    replace e := Lib.hid e
    go_wp2_with fail
    go_ret
    exact ⟨ret_bool e.out.symm, rfl⟩
  have dt : decide (t < 0) = false := by simpa using t1
  have ft : decide (1000000 < t) = false := by simpa using t2
  go_wp2_with fail
  rw [rounds_succ]
  by_cases p1 : p < 0
  · have d1 : decide (p < 0) = true := by simpa using p1
    have e : quoB h t p = false := by unfold quoB goodQ; simp; omega
    replace e := Lib.hid e
    go_wp2_with fail
    go_ret
    exact ⟨ret_bool e.out.symm, rfl⟩
  by_cases p2 : 1000000 < p
  · have d1 : decide (p < 0) = false := by simpa using p1
    have d2 : decide (1000000 < p) = true := by simpa using p2
    have e : quoB h t p = false := by unfold quoB goodQ; simp; omega
    replace e := Lib.hid e
    go_wp2_with fail
    go_ret
    exact ⟨ret_bool e.out.symm, rfl⟩
  have dp : decide (p < 0) = false := by simpa using p1
  have fp : decide (1000000 < p) = false := by simpa using p2
  go_wp2_with fail
  rw [rounds_succ]
  have e : quoB h t p = (decide (0 < h) && decide (p * t ≤ 100 * h)) := by
    have : goodQ h t p = true := by unfold goodQ; simp; omega
    unfold quoB; rw [this]; rfl
  have hpt : 0 ≤ p * t ∧ p * t ≤ 1000000000000 := ⟨Int.mul_nonneg (by omega) (by omega), by
    have := Int.mul_le_mul (show p ≤ 1000000 by omega) (show t ≤ 1000000 by omega) (by omega) (by omega)
    omega⟩
  have k1 : IntKind.i64.wrap (p * t) = p * t := IntWalk.i64_in _ (by omega)
  have k2 : IntKind.i64.wrap (100 * h) = 100 * h := IntWalk.i64_in _ (by omega)
  replace e := Lib.hid e
  go_wp2_with fail
  all_goals go_ret
  all_goals (refine ⟨ret_bool ?_, rfl⟩; rw [e.out]; by_cases q1 : 0 < h <;> by_cases q2 : p * t ≤ 100 * h <;> simp_all <;> omega)
end Go.Proofs.Ytejgekoinbdhjaa
