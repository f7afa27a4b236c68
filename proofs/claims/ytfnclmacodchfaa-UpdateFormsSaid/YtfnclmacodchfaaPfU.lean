/- update: plain, light, lives. -/
import Derived.Test.YtfnclmacodchfaaPfT
namespace Go.Proofs.Ytfnclmacodchfaa
set_option linter.unusedVariables false
open Go Go.RowKit

def lightU (n1 n2 n : Nat) : Bool := decide (n1 ≤ 2000 ∧ n2 ≤ 2000 ∧ n ≤ 300)
set_option maxRecDepth 100000 in
set_option maxHeartbeats 4000000 in
theorem plain9_any (w : World) (A1 : Option Addr) (n1 c1 : Nat) (o : Int) (A : Option Addr) (n c : Nat) (h m : Int) (b : Bool) (A2 : Option Addr) (n2 c2 : Nat) :
    Calls Try.prog 9 #[.agg #[.slice A1 n1 c1, .int .i64 o, .slice A n c, .int .u32 h, .int .i64 m, .bool b, .slice A2 n2 c2]] w fun e w' => e = .returned (.agg #[.slice A1 n1 c1, .int .i64 o, .slice A n c, .int .u32 h, .int .i64 m, .bool b, .slice A2 n2 c2]) ∧ Below w.heap.size w w' := by
  have hi : (Try.prog.info? 33).map (·.size) = some 7 := by kernel_rfl
  have hB := ((Below.refl w.heap.size w).alloc (Nat.le_refl _) (.cells #[.slice A1 n1 c1, .int .i64 o, .slice A n c, .int .u32 h, .int .i64 m, .bool b, .slice A2 n2 c2] 28)).alloc (by simp) (.cells #[.slice none 0 0, .int .i64 0, .slice none 0 0, .int .u32 0, .int .i64 0, .bool false, .slice none 0 0] 33)
  have hp := (Blk.new w 28 #[.slice A1 n1 c1, .int .i64 o, .slice A n c, .int .u32 h, .int .i64 m, .bool b, .slice A2 n2 c2]).alloc (.cells #[.slice none 0 0, .int .i64 0, .slice none 0 0, .int .u32 0, .int .i64 0, .bool false, .slice none 0 0] 33)
  have hp' : Blk ((w.alloc (.cells #[.slice A1 n1 c1, .int .i64 o, .slice A n c, .int .u32 h, .int .i64 m, .bool b, .slice A2 n2 c2] 28)).alloc (.cells #[.slice none 0 0, .int .i64 0, .slice none 0 0, .int .u32 0, .int .i64 0, .bool false, .slice none 0 0] 33)) (w.heap.size + 1) 33 #[.slice none 0 0, .int .i64 0, .slice none 0 0, .int .u32 0, .int .i64 0, .bool false, .slice none 0 0] := by
    have := Blk.new (w.alloc (.cells #[.slice A1 n1 c1, .int .i64 o, .slice A n c, .int .u32 h, .int .i64 m, .bool b, .slice A2 n2 c2] 28)) 33 #[.slice none 0 0, .int .i64 0, .slice none 0 0, .int .u32 0, .int .i64 0, .bool false, .slice none 0 0]
    simpa using this
  go_enter Try.func9, Try.ntmps9
  go_upto_region 1 with (fail)
  generalize (w.alloc (.cells #[.slice A1 n1 c1, .int .i64 o, .slice A n c, .int .u32 h, .int .i64 m, .bool b, .slice A2 n2 c2] 28)).alloc (.cells #[.slice none 0 0, .int .i64 0, .slice none 0 0, .int .u32 0, .int .i64 0, .bool false, .slice none 0 0] 33) = w1 at *
  have hz := hB.size
  have q0 : w1.cell? ⟨w.heap.size, 0, none⟩ = some (.slice A1 n1 c1) := hp.cellv 0 rfl
  have q1 : w1.cell? ⟨w.heap.size, 1, none⟩ = some (.int .i64 o) := hp.cellv 1 rfl
  have q2 : w1.cell? ⟨w.heap.size, 2, none⟩ = some (.slice A n c) := hp.cellv 2 rfl
  have q3 : w1.cell? ⟨w.heap.size, 3, none⟩ = some (.int .u32 h) := hp.cellv 3 rfl
  have q4 : w1.cell? ⟨w.heap.size, 4, none⟩ = some (.int .i64 m) := hp.cellv 4 rfl
  have q5 : w1.cell? ⟨w.heap.size, 5, none⟩ = some (.bool b) := hp.cellv 5 rfl
  have q6 : w1.cell? ⟨w.heap.size, 6, none⟩ = some (.slice A2 n2 c2) := hp.cellv 6 rfl
  have ql := hp.lt
  go_wp2_with (refine wpList_store_blk rfl hp' 33 (.tmp 2) (.tmp 9) rfl rfl rfl rfl hi (by simp [Value.oneCell']) ?_; intro w9 hr9 hg9)
  refine bodyPost_ret (results_c rfl _ rfl (load_blk hr9 Try.underlying33 rfl hi)) rfl ?_
  exact ⟨rfl, below_own hB hg9 hB.size (by omega)⟩
set_option maxRecDepth 100000 in
set_option maxHeartbeats 4000000 in
theorem light9_any (w : World) (A1 : Option Addr) (n1 c1 : Nat) (o : Int) (A : Option Addr) (n c : Nat) (h m : Int) (b : Bool) (A2 : Option Addr) (n2 c2 : Nat) :
    Calls Try.prog 7 #[.agg #[.slice A1 n1 c1, .int .i64 o, .slice A n c, .int .u32 h, .int .i64 m, .bool b, .slice A2 n2 c2]] w fun e w' => e = .returned (.bool (lightU n1 n2 n)) ∧ Below w.heap.size w w' := by
  have hB := (Below.refl w.heap.size w).alloc (Nat.le_refl _) (.cells #[.slice A1 n1 c1, .int .i64 o, .slice A n c, .int .u32 h, .int .i64 m, .bool b, .slice A2 n2 c2] 28)
  go_enter Try.func7, Try.ntmps7
  by_cases h1 : n1 ≤ 2000
  rotate_left
  · have k1 : ¬ ((n1 : Int) ≤ 2000) := by omega
    have e := Lib.hid (show false = lightU n1 n2 n by unfold lightU; symm; rw [decide_eq_false_iff_not]; omega)
    go_wp2_with fail
    go_ret
    exact ⟨ret_bool e.out, hB⟩
  have k1 : (n1 : Int) ≤ 2000 := by omega
  by_cases h2 : n2 ≤ 2000
  rotate_left
  · have k2 : ¬ ((n2 : Int) ≤ 2000) := by omega
    have e := Lib.hid (show false = lightU n1 n2 n by unfold lightU; symm; rw [decide_eq_false_iff_not]; omega)
    go_wp2_with fail
    go_ret
    exact ⟨ret_bool e.out, hB⟩
  have k2 : (n2 : Int) ≤ 2000 := by omega
  by_cases h3 : n ≤ 300
  rotate_left
  · have k3 : ¬ ((n : Int) ≤ 300) := by omega
    have e := Lib.hid (show false = lightU n1 n2 n by unfold lightU; symm; rw [decide_eq_false_iff_not]; omega)
    go_wp2_with fail
    go_ret
    exact ⟨ret_bool e.out, hB⟩
  have k3 : (n : Int) ≤ 300 := by omega
  have e := Lib.hid (show true = lightU n1 n2 n by unfold lightU; symm; rw [decide_eq_true_eq]; omega)
  go_wp2_with fail
  go_ret
  exact ⟨ret_bool e.out, hB⟩
theorem lives9_bytes : upB [] [] 0 [] 0 0 false = [0, 0, 0, 0] := by decide
theorem UpR.none_ (w : World) : UpR w none 0 [] none 0 [] 0 none 0 [] := ⟨⟨rfl, by simp, fun h => absurd h (by omega)⟩, ⟨rfl, by simp, fun h => absurd h (by omega)⟩, Nums.zero w, by omega, by omega⟩
set_option maxRecDepth 100000 in
theorem lives9_any (w : World) : Calls Try.prog 8 #[] w fun e w' => e = .returned (.bool true) ∧ Below w.heap.size w w' := by
  go_enter Try.func8, Try.ntmps8
  go_wp2_with fail
  refine (upBytes_any w none 0 0 [] 0 none 0 0 [] 0 0 false none 0 0 [] (UpR.none_ w) (by omega) (by omega) (by omega)).mono ?_
  rintro e w1 ⟨v1, rfl, own1, hB⟩
  rw [lives9_bytes, show ([0, 0, 0, 0] : List UInt8).length = 4 from rfl] at own1
  have hs := own1.str
  rw [show strB [0, 0, 0, 0] = ⟨#[0, 0, 0, 0]⟩ from rfl] at hs
  obtain ⟨A1, c1, rfl, _, _, _⟩ := own1.any
  go_wp2_with fail
  go_ret
  exact ⟨rfl, hB⟩
end Go.Proofs.Ytfnclmacodchfaa
