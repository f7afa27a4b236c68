/- policy: Better, and the law PolicyBetter. policy: Good and Attrs, and the document's example (lives). policy: lives. policy: Good of any policy; Attrs at Normal; attr.Good. policy: PolicyFallback. -/
import Derived.Test.YtgdeecmhhbdjgaaRows
import Derived.Test.YtgdeecmhhbdjgaaLib
import Derived.BigGuardPart
namespace Go.Proofs.Ytgdeecmhhbdjgaa.pl
set_option linter.unusedVariables false
open Go.RowKit

def cmpV (x y : Int) : Int := if x < y then -1 else if y < x then 1 else 0
def orV (x y z : Int) : Int := if x ≠ 0 then x else if y ≠ 0 then y else z
def attrCs (o : Int) (A : Option Addr) (n c : Nat) (h m : Int) (k : Bool) : Array Value := #[.int .i64 o, .slice A n c, .int .u32 h, .int .i64 m, .bool k]
def medV (m : Int) (k : Bool) : Int := if k then m else 0
def betterV (o1 : Int) (n1 : Nat) (m1 o2 : Int) (n2 : Nat) (m2 : Int) : Bool := decide (n1 < n2 ∨ (n1 = n2 ∧ (o1 < o2 ∨ (o1 = o2 ∧ m1 < m2))))
theorem betterV_or (o1 : Int) (n1 : Nat) (m1 o2 : Int) (n2 : Nat) (m2 : Int) : decide (orV (cmpV n1 n2) (cmpV o1 o2) (cmpV m1 m2) < 0) = betterV o1 n1 m1 o2 n2 m2 := by
  unfold betterV
  rw [Bool.eq_iff_iff, decide_eq_true_iff, decide_eq_true_iff]
  unfold orV cmpV
  repeat' (first | omega | split)

theorem betterV_self (o : Int) (n : Nat) (m : Int) : betterV o n m o n m = false := by unfold betterV; simp
theorem betterV_anti {o1 : Int} {n1 : Nat} {m1 o2 : Int} {n2 : Nat} {m2 : Int} (h : betterV o1 n1 m1 o2 n2 m2 = true) : betterV o2 n2 m2 o1 n1 m1 = false := by
  have h := of_decide_eq_true h
  exact decide_eq_false (by omega)
theorem betterV_trans {o1 : Int} {n1 : Nat} {m1 o2 : Int} {n2 : Nat} {m2 o3 : Int} {n3 : Nat} {m3 : Int} (h : betterV o1 n1 m1 o2 n2 m2 = true) (h' : betterV o2 n2 m2 o3 n3 m3 = true) : betterV o1 n1 m1 o3 n3 m3 = true := by
  have h := of_decide_eq_true h
  have h' := of_decide_eq_true h'
  exact decide_eq_true (by omega)
end Go.Proofs.Ytgdeecmhhbdjgaa.pl

namespace Go.Proofs.Ytgdeecmhhbdjgaa.pl
set_option linter.unusedVariables false
open Go.RowKit

set_option maxHeartbeats 400000 in
theorem in_yes (n l h : Int) (w : World) (h1 : l ≤ n) (h2 : n ≤ h) : Calls Try.prog 62 #[.int .i64 n, .int .i64 l, .int .i64 h] w fun e w' => e = .returned (.bool true) ∧ w = w' := by
  go_enter Try.func62, Try.ntmps62
  go_wp2_with fail
  all_goals go_ret
  all_goals exact ⟨ret_bool (by simp), rfl⟩
def hopOk (h : Int) : Prop := h ≠ 0 ∧ h ≠ 4294967295 ∧ h / 16777216 ≠ 127 ∧ h / 536870912 ≠ 7
set_option maxHeartbeats 400000 in
theorem hop9 (w : World) : Calls Try.prog 42 #[.int .u32 9] w fun e w' => e = .returned (.bool true) ∧ w = w' := by
  go_enter Try.func42, Try.ntmps42
  go_wp2_with fail
  all_goals go_ret
  all_goals exact ⟨rfl, rfl⟩
def polCs (s h m p b : Int) : Array Value := #[.int .i64 s, .int .u32 h, .int .i64 m, .int .i64 p, .int .i64 b]
set_option maxHeartbeats 800000 in
theorem good9 (w : World) : Calls Try.prog 41 #[.agg #[.int .i64 7, .int .u32 9, .int .i64 0, .int .i64 2, .int .i64 0]] w fun e w' => e = .returned (.bool true) ∧ Below w.heap.size w w' := by
  have hB : Below w.heap.size w (w.alloc (.cells (polCs 7 9 0 2 0) 54)) := ((Below.refl _ _).alloc (Nat.le_refl _) _)
  go_enter Try.func41, Try.ntmps41
  go_wp2_with (first
    | (go_at_call 62; refine (in_yes _ _ _ _ (by omega) (by omega)).mono ?_; rintro e w' ⟨rfl, rfl⟩)
    | (go_at_call 42; refine (hop9 _).mono ?_; rintro e w' ⟨rfl, rfl⟩))
  all_goals go_ret
  all_goals exact ⟨rfl, hB⟩
def attrZ : Array Value := #[.int .i64 0, .slice none 0 0, .int .u32 0, .int .i64 0, .bool false]
def attrVs (h : Int) (v : Value) (b : Int) : Array Value := #[.int .i64 0, v, .int .u32 h, .int .i64 b, .bool true]
theorem results_cell_tmp {P : Program} {fn : Func} {a u : Tmp} {ty : TypeId} {w : World} {ad : Addr} {v : Value} (h : fn.results = #[.cell a ty, .tmp u]) (tmps : Array Value) (ha : tmps.getD a undef = .pointer (some ad)) (hl : (loadVar ty ad).run P w = .ok v w) :
    (results fn tmps).run P w = .ok (.tuple #[v, tmps.getD u undef]) w := by
  have ha2 := ha
  simp only [Array.getD_eq_getD_getElem?] at ha2
  simp [results, h, ha2, asAddr, hl]
theorem blk_setCells5 {w : World} {g : Nat} {t : TypeId} (h : Blk w g t attrZ) (a b c d e : Value) : Blk (w.setCells g 0 [a, b, c, d, e]) g t #[a, b, c, d, e] := by
  have := ((((h.set_ 0 a).set_ 1 b).set_ 2 c).set_ 3 d).set_ 4 e
  simp only [attrZ, List.setIfInBounds_toArray, List.set_cons_zero, List.set_cons_succ] at this
  exact this
end Go.Proofs.Ytgdeecmhhbdjgaa.pl

namespace Go.Proofs.Ytgdeecmhhbdjgaa.pl
set_option linter.unusedVariables false
open Go.RowKit

end Go.Proofs.Ytgdeecmhhbdjgaa.pl

namespace Go.Proofs.Ytgdeecmhhbdjgaa.pl
set_option linter.unusedVariables false
open Go.RowKit

def inV (n l h : Int) : Bool := decide (l ≤ n) && decide (n ≤ h)
theorem inV_iff (n l h : Int) : inV n l h = true ↔ l ≤ n ∧ n ≤ h := by simp [inV]
set_option maxHeartbeats 400000 in
theorem in_any (n l h : Int) (w : World) : Calls Try.prog 62 #[.int .i64 n, .int .i64 l, .int .i64 h] w fun e w' => e = .returned (.bool (inV n l h)) ∧ w = w' := by
  go_enter Try.func62, Try.ntmps62
  go_wp2_with fail
  all_goals go_ret
  all_goals (refine ⟨ret_bool ?_, rfl⟩; simp only [inV]; simp; try omega)
def hopV (h : Int) : Bool := (h != 0) && (h != 4294967295) && (h / 16777216 != 127) && (h / 536870912 != 7)
set_option maxHeartbeats 400000 in
theorem hop_any (h : Int) (w : World) (h0 : 0 ≤ h) (h1 : h ≤ 4294967295) : Calls Try.prog 42 #[.int .u32 h] w fun e w' => e = .returned (.bool (hopV h)) ∧ w = w' := by
  go_enter Try.func42, Try.ntmps42
  go_wp2_with fail
  all_goals go_ret
  all_goals (refine ⟨ret_bool ?_, rfl⟩; simp_all [hopV])
def goodV (s h m p b : Int) : Bool := inV s 1 65535 && hopV h && inV m 0 4294967295 && inV b 0 4294967295 && inV p 0 15
set_option maxHeartbeats 800000 in
theorem good_any (s h m p b : Int) (w : World) (h0 : 0 ≤ h) (h1 : h ≤ 4294967295) : Calls Try.prog 41 #[.agg #[.int .i64 s, .int .u32 h, .int .i64 m, .int .i64 p, .int .i64 b]] w fun e w' => e = .returned (.bool (goodV s h m p b)) ∧ Below w.heap.size w w' := by
  have hB : Below w.heap.size w (w.alloc (.cells (polCs s h m p b) 54)) := ((Below.refl _ _).alloc (Nat.le_refl _) _)
  go_enter Try.func41, Try.ntmps41
  cases e1 : inV s 1 65535 <;> cases e2 : hopV h <;> cases e3 : inV m 0 4294967295 <;> cases e4 : inV b 0 4294967295 <;>
  go_wp2_with (first
    | (go_at_call 62; refine (in_any _ _ _ _).mono ?_; rintro e w' ⟨rfl, rfl⟩; simp only [e1, e3, e4])
    | (go_at_call 42; refine (hop_any _ _ h0 h1).mono ?_; rintro e w' ⟨rfl, rfl⟩; simp only [e2]))
  all_goals go_ret
  all_goals exact ⟨ret_bool (by simp [goodV, e1, e2, e3, e4]), hB⟩

end Go.Proofs.Ytgdeecmhhbdjgaa.pl

namespace Go.Proofs.Ytgdeecmhhbdjgaa.pl
set_option linter.unusedVariables false
open Go.RowKit

theorem good_parts {s h m p b : Int} (hg : goodV s h m p b = true) : (1 ≤ s ∧ s ≤ 65535) ∧ hopV h = true ∧ (0 ≤ m ∧ m ≤ 4294967295) ∧ (0 ≤ b ∧ b ≤ 4294967295) ∧ (0 ≤ p ∧ p ≤ 15) := by
  simp only [goodV, Bool.and_eq_true, inV_iff] at hg
  exact ⟨hg.1.1.1.1, hg.1.1.1.2, hg.1.1.2, hg.1.2, hg.2⟩
theorem worse_eq (m b : Int) (k : Nat) : betterV 0 1 (medV m true) 0 (k + 1) (medV b true) = (decide ((0 : Int) < (k : Int)) || decide (m < b)) := by
  rw [Bool.eq_iff_iff, Bool.or_eq_true, decide_eq_true_iff, decide_eq_true_iff]
  unfold betterV medV
  simp
  omega

end Go.Proofs.Ytgdeecmhhbdjgaa.pl
