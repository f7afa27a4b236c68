/- timer: the table as it lies in memory; Add, made, New; the comparison of numbers. -/
import Derived.Test.YtejgekoinbdhjaaLib
import Derived.Test.YtejgekoinbdhjaaRowS
import Derived.BigGuardPart
import Derived.Deep.Cut
import Derived.WalkSpells
namespace Go.Proofs.Ytejgekoinbdhjaa
set_option linter.unusedVariables false
open Go Go.RowKit Go.Maps

theorem tkey : Keyed Try.prog 3 := int_keyed Try.underlying3
theorem tlit (z : Int) (h0 : -9223372036854775808 ≤ z) (h1 : z ≤ 9223372036854775807) : keyOf Try.prog 3 (.int .i64 z) = some (.int .i64 z) :=
  keyOf_int_mk Try.underlying3 (by simp only [Lit.wf, Bool.and_eq_true, decide_eq_true_eq]; exact ⟨h0, h1⟩)
theorem tmap_und : Try.prog.underlying 98 = some (.map 3 196) := Try.underlying98
@[go_sem] theorem neq_tmap (m : Option Nat) (w : World) : (binOp .neq 98 (.map m) (.map none)).run Try.prog w = .ok (.bool (!m.isNone)) w := Go.run_neq_map_nil w _ _ _ m tmap_und
@[go_sem] theorem make_tmap (w : World) : (Instr.makeMap 98 none).run Try.prog w = .ok (.map (some w.heap.size)) (w.alloc (.map #[] 0)) := rfl
theorem alarm_zero (w : World) : (zeroValue 196).run Try.prog w = .ok (.agg #[.int .i64 0, .int .i64 0]) w := by kernel_rfl
/-- a slot: an id, when, as the how manieth. -/
structure Slo where
  id : Int
  ex : Int
  od : Int
deriving DecidableEq
def sloC (s : Slo) : Array Value := #[.int .i64 s.id, .int .i64 s.ex, .int .i64 s.od]
def sloE (s : Slo) : Value × Value := (.int .i64 s.id, .agg #[.int .i64 s.ex, .int .i64 s.od])
def sloK : RK Slo where
  size := 3
  cel s := [.int .i64 s.id, .int .i64 s.ex, .int .i64 s.od]
  ok _ _ _ := True
  pos := by omega
  len _ := rfl
  one _ u hu := by simp at hu; rcases hu with rfl | rfl | rfl <;> rfl
  keep _ _ := trivial
  more _ _ := trivial
theorem slo_ok : ElemOk Try.prog 99 198 sloK.size 24 (.agg #[.int .i64 0, .int .i64 0, .int .i64 0]) := ⟨Try.underlying99, by kernel_rfl, rfl, sloK.pos⟩
/-- block g is a table: most, now, count; its map in block b has the entries A; its heap is the row v of H. -/
structure TabV (w : World) (g b : Nat) (mo no co : Int) (v : Value) (A H : List Slo) : Prop where
  blk : Blk w g 101 #[.int .i64 mo, .int .i64 no, .int .i64 co, .map (some b), v]
  ent : Ent Try.prog 3 w b (A.map sloE)
  row : Rows sloK w 0 0 198 v H
  ng : v.ownBlock ≠ some g
  nb : v.ownBlock ≠ some b
section
variable {w w' : World} {g b : Nat} {mo no co : Int} {v : Value} {A H : List Slo}
theorem TabV.ltg (h : TabV w g b mo no co v A H) : g < w.heap.size := h.blk.lt
theorem TabV.ltb (h : TabV w g b mo no co v A H) : b < w.heap.size := h.ent.lt
theorem TabV.nx (h : TabV w g b mo no co v A H) (hb : Below w.heap.size w w') : TabV w' g b mo no co v A H :=
  ⟨h.blk.below hb h.ltg, h.ent.below hb h.ltb, h.row.below hb, h.ng, h.nb⟩
theorem TabV.alloc (h : TabV w g b mo no co v A H) (o : Obj) : TabV (w.alloc o) g b mo no co v A H := h.nx ((Below.refl _ _).alloc (Nat.le_refl _) o)
theorem TabV.ne (h : TabV w g b mo no co v A H) : g ≠ b := by
  intro e
  obtain ⟨es, c, h2, _⟩ := h.ent
  have h1 := h.blk
  unfold Blk at h1
  rw [e, h2] at h1
  cases h1
end
/-- times add up. -/
def addT (a b : Int) : Int := min (max a 0 + max b 0) 1099511627776
theorem addT_comm (a b : Int) : addT a b = addT b a := by unfold addT; rw [Int.add_comm]
theorem addT_bd (a b : Int) : 0 ≤ addT a b ∧ addT a b ≤ 1099511627776 := by unfold addT; omega
theorem addT_any (w : World) (a b : Int) : Calls Try.prog 57 #[.int .i64 a, .int .i64 b] w fun e w' => e = .returned (.int .i64 (addT a b)) ∧ w = w' := by
  go_enter Try.func57, Try.ntmps57
  go_wp2_with fail
  all_goals go_ret
  all_goals (refine ⟨ret_int ?_, rfl⟩; simp_all [addT] <;> omega)
theorem refAddT_any (w : World) (a b : Int) : Calls Try.prog 58 #[.int .i64 a, .int .i64 b] w fun e w' => e = .returned (.int .i64 (addT a b)) ∧ w = w' := by
  go_enter Try.func58, Try.ntmps58
  go_wp2_with fail
  all_goals go_ret
  all_goals (refine ⟨ret_int ?_, rfl⟩; simp_all [addT] <;> omega)
set_option maxRecDepth 100000 in
theorem madeT_in {w : World} {g b : Nat} {mo no co : Int} {v : Value} {A H : List Slo} (h : TabV w g b mo no co v A H) :
    Calls Try.prog 134 #[.pointer (some ⟨g, 0, none⟩)] w fun e w' => e = .returned (.bool true) ∧ w = w' := by
  have c1 : w.cell? ⟨g, 3, none⟩ = some (.map (some b)) := h.blk.cellv 3 rfl
  go_enter Try.func134, Try.ntmps134
  go_wp2_with fail
  go_ret
  exact ⟨rfl, rfl⟩
theorem madeT_nil (w : World) :
    Calls Try.prog 134 #[.pointer none] w fun e w' => e = .returned (.bool false) ∧ w = w' := by
  go_enter Try.func134, Try.ntmps134
  go_wp2_with fail
  go_ret
  exact ⟨rfl, rfl⟩
set_option maxRecDepth 100000 in
theorem madeT_zero (w : World) (g : Nat) (mo no co : Int) (v : Value) (h : Blk w g 101 #[.int .i64 mo, .int .i64 no, .int .i64 co, .map none, v]) :
    Calls Try.prog 134 #[.pointer (some ⟨g, 0, none⟩)] w fun e w' => e = .returned (.bool false) ∧ w = w' := by
  have c1 : w.cell? ⟨g, 3, none⟩ = some (.map none) := h.cellv 3 rfl
  go_enter Try.func134, Try.ntmps134
  go_wp2_with fail
  go_ret
  exact ⟨rfl, rfl⟩
theorem newT_in (w : World) (mo : Int) (h1 : 1 ≤ mo) (h2 : mo ≤ 1024) :
    Calls Try.prog 53 #[.int .i64 mo] w fun e w' => ∃ g b, e = .returned (.pointer (some ⟨g, 0, none⟩)) ∧ TabV w' g b mo 0 0 (.slice none 0 0) [] [] ∧ w.heap.size ≤ g ∧ w.heap.size ≤ b ∧ Below w.heap.size w w' := by
  have d1 : decide (mo < 1) = false := by simp; omega
  have d2 : decide (1024 < mo) = false := by simp; omega
  go_enter Try.func53, Try.ntmps53
  go_wp2_with fail
  go_ret
  refine ⟨_, _, rfl, ⟨by have := Blk.new (w.alloc (.map #[] 0)) 101 #[.int .i64 mo, .int .i64 0, .int .i64 0, .map (some w.heap.size), .slice none 0 0]; simpa using this, (Ent.made w).alloc _, Rows.nil _ _ _ _, by simp [Value.ownBlock], by simp [Value.ownBlock]⟩, by simp, Nat.le_refl _, ((Below.refl _ _).alloc (Nat.le_refl _) _).alloc (by simp) _⟩
theorem newT_no (w : World) (mo : Int) (h : mo < 1 ∨ 1024 < mo) :
    Calls Try.prog 53 #[.int .i64 mo] w fun e w' => e = .returned (.pointer none) ∧ w = w' := by
  go_enter Try.func53, Try.ntmps53
  by_cases d : mo < 1
  · have d1 : decide (mo < 1) = true := by simpa using d
    go_wp2_with fail
    go_ret
    exact ⟨rfl, rfl⟩
  have d1 : decide (mo < 1) = false := by simpa using d
  have d2 : decide (1024 < mo) = true := by simp; omega
  go_wp2_with fail
  go_ret
  exact ⟨rfl, rfl⟩
/-- numbers compared. -/
def cmpI (a b : Int) : Int := if a < b then -1 else if b < a then 1 else 0
theorem isNaN_any (w : World) (a : Int) : Calls Try.prog 195 #[.int .i64 a] w fun e w' => e = .returned (.bool false) ∧ w = w' := by
  go_enter Try.func195, Try.ntmps195
  go_wp2_with fail
  go_ret
  exact ⟨ret_bool (by simp), rfl⟩
theorem cmpI_any (w : World) (a b : Int) : Calls Try.prog 189 #[.int .i64 a, .int .i64 b] w fun e w' => e = .returned (.int .i64 (cmpI a b)) ∧ w = w' := by
  go_enter Try.func189, Try.ntmps189
  go_wp2_with (go_at_call 195; refine (isNaN_any _ _).mono ?_; rintro e w' ⟨rfl, rfl⟩)
  all_goals go_ret
  all_goals (refine ⟨ret_int ?_, rfl⟩; simp_all [cmpI] <;> omega)
end Go.Proofs.Ytejgekoinbdhjaa
