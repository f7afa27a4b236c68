/- attr: what the attributes of bytes are; which types were met. -/
import Derived.Test.YtfnclmacodchfaaAtN
namespace Go.Proofs.Ytfnclmacodchfaa
set_option linter.unusedVariables false
open Go.RowKit

def att0 : AttV := ⟨0, [], 0, 0, false⟩
/-- attributes one behind the other, into others; or a fault's Sub and its data. -/
def parseG : List RawD → List Int → AttV → Except (Int × List UInt8) AttV
  | [], ts, a => if inB ts 1 = false then .error (3, [1]) else if inB ts 2 = false then .error (3, [2]) else if inB ts 3 = false then .error (3, [3]) else .ok a
  | d :: ds, ts, a => if inB ts d.2.1 = true then .error (1, []) else match takeS a d.1 d.2.1 d.2.2 with
    | .error x => .error (x, if x = 11 then [] else oneL d.1 d.2.1 d.2.2)
    | .ok a' => parseG ds (d.2.1 :: ts) a'
def parseA (l : List UInt8) : Except (Int × List UInt8) AttV := match splitL ⟨l, 0, 0⟩ with
  | none => .error (1, [])
  | some ds => parseG ds [] att0
theorem parseG_met {d : RawD} {ds : List RawD} {ts : List Int} {a : AttV} (h : inB ts d.2.1 = true) : parseG (d :: ds) ts a = .error (1, []) := if_pos h
theorem parseG_no {d : RawD} {ds : List RawD} {ts : List Int} {a : AttV} {x : Int} (h : inB ts d.2.1 = false) (h1 : takeS a d.1 d.2.1 d.2.2 = .error x) : parseG (d :: ds) ts a = .error (x, if x = 11 then [] else oneL d.1 d.2.1 d.2.2) := by
  unfold parseG; rw [if_neg (by simp [h]), h1]
theorem parseG_go {d : RawD} {ds : List RawD} {ts : List Int} {a a' : AttV} (h : inB ts d.2.1 = false) (h1 : takeS a d.1 d.2.1 d.2.2 = .ok a') : parseG (d :: ds) ts a = parseG ds (d.2.1 :: ts) a' := by
  rw [parseG, if_neg (by simp [h]), h1]
theorem numV_1 (s : St) : 0 ≤ numV s 1 ∧ numV s 1 ≤ 255 := by
  refine ⟨numV_lo s 1, ?_⟩
  unfold numV
  split
  · omega
  · have e : getN (tk s ((1 : Nat) : Int)).2 1 = 0 * 256 + byAt (tk s ((1 : Nat) : Int)).2 0 := rfl
    have := byAt_hi (tk s ((1 : Nat) : Int)).2 0
    rw [e]; omega
/-- what is so of each attribute that was split off. -/
def RawOk (n : Nat) (d : RawD) : Prop := (0 ≤ d.1 ∧ d.1 ≤ 255) ∧ (0 ≤ d.2.1 ∧ d.2.1 ≤ 255) ∧ d.2.2.length ≤ n
theorem splitF_ok : ∀ (n : Nat) (s : St) (ds : List RawD), splitF n s = some ds → (∀ d ∈ ds, RawOk s.l.length d) ∧ ds.length ≤ s.l.length
  | 0, s, ds, h => by unfold splitF at h; cases h; simp
  | n + 1, s, ds, h => by
    unfold splitF at h
    split at h
    · split at h
      · rename_i h1
        cases hx : splitF n (rdS4 s) with
        | none => rw [hx] at h; cases h
        | some es =>
          rw [hx] at h
          cases h
          have h2 := splitF_ok n (rdS4 s) es hx
          have h3 := (rd_less h1).1
          refine ⟨fun d hd => ?_, by simp; omega⟩
          rcases List.mem_cons.1 hd with rfl | hd
          · refine ⟨numV_1 s, numV_1 (rdS1 s), ?_⟩
            have a1 : (rdV s).length ≤ (rdS3 s).l.length := tk_max (rdS3 s) (rdZ s)
            have a2 : (rdS3 s).l.length ≤ (rdS2 s).l.length := tk_le (rdS2 s) (rdK s)
            have a3 : (rdS2 s).l.length ≤ (rdS1 s).l.length := tk_le (rdS1 s) 1
            have a4 : (rdS1 s).l.length ≤ s.l.length := tk_le s 1
            show (rdV s).length ≤ s.l.length
            omega
          · have := h2.1 d hd
            exact ⟨this.1, this.2.1, by have := this.2.2; omega⟩
      · cases h
    · cases h; simp
theorem splitL_ok {s : St} {ds : List RawD} (h : splitL s = some ds) : (∀ d ∈ ds, RawOk s.l.length d) ∧ ds.length ≤ s.l.length := splitF_ok _ s ds h
/-- block gm says which types were met. -/
def Met (w : World) (gm : Nat) (ts : List Int) : Prop := ∃ cs, Blk w gm 116 cs ∧ ∀ i : Nat, i < 256 → cs[i]? = some (.bool (inB ts (i : Int)))
section
variable {w w' : World} {gm : Nat} {ts : List Int}
theorem Met.lt (h : Met w gm ts) : gm < w.heap.size := by obtain ⟨cs, h1, _⟩ := h; exact h1.lt
theorem Met.below (h : Met w gm ts) (hb : Below w.heap.size w w') : Met w' gm ts := by
  obtain ⟨cs, h1, h2⟩ := h
  exact ⟨cs, h1.below hb h1.lt, h2⟩
theorem Met.grown {row : Option Nat} (h : Met w gm ts) (hg : w.grownBy w' row) (hne : some gm ≠ row) : Met w' gm ts := by
  obtain ⟨cs, h1, h2⟩ := h
  exact ⟨cs, h1.grown hg hne, h2⟩
theorem Met.cell (h : Met w gm ts) (k : Nat) (hk : k < 256) : w.cell? ⟨gm, k, none⟩ = some (.bool (inB ts (k : Int))) := by
  obtain ⟨cs, h1, h2⟩ := h
  exact h1.cellv k (h2 k hk)
theorem Met.frozen (h : Met w gm ts) (k : Nat) : w.frozen? ⟨gm, k, none⟩ = false := by
  obtain ⟨cs, h1, h2⟩ := h
  exact h1.frozen k
theorem Met.set_ (h : Met w gm ts) (k : Nat) (hk : k < 256) : Met (w.setCell ⟨gm, k, none⟩ (.bool true)) gm ((k : Int) :: ts) ∧ w.grownBy (w.setCell ⟨gm, k, none⟩ (.bool true)) (some gm) := by
  obtain ⟨cs, h1, h2⟩ := h
  obtain ⟨q1, q2⟩ := blk_store h1 k (.bool true)
  refine ⟨⟨_, q1, fun i hi => ?_⟩, q2⟩
  have hsz : k < cs.size := (Array.getElem?_eq_some_iff.1 (h2 k hk)).1
  have e : inB ((k : Int) :: ts) (i : Int) = ((k : Int) == (i : Int) || inB ts (i : Int)) := rfl
  rw [Array.getElem?_setIfInBounds, e]
  by_cases hki : k = i
  · subst hki; simp [hsz]
  · rw [if_neg hki, h2 i hi]
    have : ((k : Int) == (i : Int)) = false := by rw [beq_eq_false_iff_ne]; omega
    rw [this]; rfl
theorem Met.new (w : World) : Met (w.alloc (.cells Try.zeroCells116 116)) w.heap.size [] := by
  refine ⟨_, Blk.new w _ _, fun i hi => ?_⟩
  have e : Try.zeroCells116 = Array.replicate 256 (.bool false) := by kernel_rfl
  rw [e, Array.getElem?_replicate, if_pos hi]
  rfl
end
/-- the first of three that is false. -/
def idx3 (x y z : Bool) : Int := if x = false then 0 else if y = false then 1 else if z = false then 2 else -1
set_option maxHeartbeats 2000000 in
theorem indexBool_a (w : World) (gm : Nat) (y : Bool) (z : Bool) (c1 : w.cell? ⟨gm, 1, none⟩ = some (.bool false)) (c2 : w.cell? ⟨gm, 2, none⟩ = some (.bool y)) (c3 : w.cell? ⟨gm, 3, none⟩ = some (.bool z)) (hl : gm < w.heap.size) :
    Calls Try.prog 80 #[.slice (some ⟨gm, 1, none⟩) 3 255, .bool false] w fun e w' => e = .returned (.int .i64 (0)) ∧ w = w' := by
  go_enter Try.func80, Try.ntmps80
  go_wp2_with fail
  refine wp_loop_rounds 4 ?_
  rw [rounds_succ]
  go_wp2_with fail
  go_ret
  exact ⟨rfl, rfl⟩
set_option maxHeartbeats 2000000 in
theorem indexBool_b (w : World) (gm : Nat) (z : Bool) (c1 : w.cell? ⟨gm, 1, none⟩ = some (.bool true)) (c2 : w.cell? ⟨gm, 2, none⟩ = some (.bool false)) (c3 : w.cell? ⟨gm, 3, none⟩ = some (.bool z)) (hl : gm < w.heap.size) :
    Calls Try.prog 80 #[.slice (some ⟨gm, 1, none⟩) 3 255, .bool false] w fun e w' => e = .returned (.int .i64 (1)) ∧ w = w' := by
  go_enter Try.func80, Try.ntmps80
  go_wp2_with fail
  refine wp_loop_rounds 4 ?_
  rw [rounds_succ]
  go_wp2_with fail
  rw [rounds_succ]
  go_wp2_with fail
  go_ret
  exact ⟨rfl, rfl⟩
set_option maxHeartbeats 2000000 in
theorem indexBool_c (w : World) (gm : Nat)  (c1 : w.cell? ⟨gm, 1, none⟩ = some (.bool true)) (c2 : w.cell? ⟨gm, 2, none⟩ = some (.bool true)) (c3 : w.cell? ⟨gm, 3, none⟩ = some (.bool false)) (hl : gm < w.heap.size) :
    Calls Try.prog 80 #[.slice (some ⟨gm, 1, none⟩) 3 255, .bool false] w fun e w' => e = .returned (.int .i64 (2)) ∧ w = w' := by
  go_enter Try.func80, Try.ntmps80
  go_wp2_with fail
  refine wp_loop_rounds 4 ?_
  rw [rounds_succ]
  go_wp2_with fail
  rw [rounds_succ]
  go_wp2_with fail
  rw [rounds_succ]
  go_wp2_with fail
  go_ret
  exact ⟨rfl, rfl⟩
set_option maxHeartbeats 2000000 in
theorem indexBool_d (w : World) (gm : Nat)  (c1 : w.cell? ⟨gm, 1, none⟩ = some (.bool true)) (c2 : w.cell? ⟨gm, 2, none⟩ = some (.bool true)) (c3 : w.cell? ⟨gm, 3, none⟩ = some (.bool true)) (hl : gm < w.heap.size) :
    Calls Try.prog 80 #[.slice (some ⟨gm, 1, none⟩) 3 255, .bool false] w fun e w' => e = .returned (.int .i64 (-1)) ∧ w = w' := by
  go_enter Try.func80, Try.ntmps80
  go_wp2_with fail
  refine wp_loop_rounds 4 ?_
  rw [rounds_succ]
  go_wp2_with fail
  rw [rounds_succ]
  go_wp2_with fail
  rw [rounds_succ]
  go_wp2_with fail
  rw [rounds_succ]
  go_wp2_with fail
  go_ret
  exact ⟨rfl, rfl⟩
theorem indexBool_any (w : World) (gm : Nat) (x y z : Bool) (c1 : w.cell? ⟨gm, 1, none⟩ = some (.bool x)) (c2 : w.cell? ⟨gm, 2, none⟩ = some (.bool y)) (c3 : w.cell? ⟨gm, 3, none⟩ = some (.bool z)) (hl : gm < w.heap.size) :
    Calls Try.prog 80 #[.slice (some ⟨gm, 1, none⟩) 3 255, .bool false] w fun e w' => e = .returned (.int .i64 (idx3 x y z)) ∧ w = w' := by
  cases x
  · exact indexBool_a w gm y z c1 c2 c3 hl
  cases y
  · exact indexBool_b w gm z c1 c2 c3 hl
  cases z
  · exact indexBool_c w gm c1 c2 c3 hl
  · exact indexBool_d w gm c1 c2 c3 hl
end Go.Proofs.Ytfnclmacodchfaa
