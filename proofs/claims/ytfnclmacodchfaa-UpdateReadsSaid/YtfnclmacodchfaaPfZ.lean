/- update: what the body of bytes is; Parse's closures. -/
import Derived.Test.YtfnclmacodchfaaPfY
import Derived.Test.YtfnclmacodchfaaAtP
namespace Go.Proofs.Ytfnclmacodchfaa
set_option linter.unusedVariables false
open Go Go.RowKit

/-- the parts of a body. -/
def upS0 (l : List UInt8) : St := ⟨l, 0, 0⟩
def prN (s : St) : Int := numV s 2
def prS1 (s : St) : St := (tk s 2).1
def prV (s : St) : List UInt8 := (tk (prS1 s) (prN s)).2
def prS (s : St) : St := (tk (prS1 s) (prN s)).1
def upG (l : List UInt8) : List UInt8 := prV (upS0 l)
def upS1 (l : List UInt8) : St := prS (upS0 l)
def upA (l : List UInt8) : List UInt8 := prV (upS1 l)
def upS2 (l : List UInt8) : St := prS (upS1 l)
def upR (l : List UInt8) : List UInt8 := (tk (upS2 l) (leftV (upS2 l))).2
def upS3 (l : List UInt8) : St := (tk (upS2 l) (leftV (upS2 l))).1
abbrev UpD := List (Int × Int) × AttV × List (Int × Int)
/-- a body, or a fault's Sub and its data. -/
def parseU (l : List UInt8) : Except (Int × List UInt8) UpD :=
  if (upS3 l).e ≠ 0 then .error (1, []) else match parseP (upG l) with
  | none => .error (10, [])
  | some l1 => match parseP (upR l) with
    | none => .error (10, [])
    | some l2 => if (upA l).length = 0 ∧ l2.length = 0 then .ok (l1, att0, l2) else match parseA (upA l) with
      | .error x => if 0 < l2.length ∨ x.1 ≠ 3 then .error x else .ok (l1, att0, l2)
      | .ok a => if 0 < l2.length then .ok (l1, a, l2) else .ok (l1, att0, l2)
theorem pr_len (s : St) : (prV s).length ≤ s.l.length := by
  have h1 := tk_max (prS1 s) (prN s)
  have h2 := tk_le s 2
  exact Nat.le_trans h1 h2
theorem prS_len (s : St) : (prS s).l.length ≤ s.l.length := Nat.le_trans (tk_le (prS1 s) (prN s)) (tk_le s 2)
theorem up_lens (l : List UInt8) : (upG l).length ≤ l.length ∧ (upA l).length ≤ l.length ∧ (upR l).length ≤ l.length := by
  have h1 := prS_len (upS0 l)
  have h2 := prS_len (upS1 l)
  have h3 := pr_len (upS1 l)
  have h4 := tk_max (upS2 l) (leftV (upS2 l))
  have e1 : (upS0 l).l.length = l.length := rfl
  have e2 : (upS1 l).l.length ≤ l.length := h1
  have e3 : (upS2 l).l.length ≤ l.length := Nat.le_trans h2 e2
  exact ⟨pr_len (upS0 l), Nat.le_trans h3 e2, Nat.le_trans h4 e3⟩
theorem Byt.off {w w' : World} {A : Option Addr} {n g : Nat} {l : List UInt8} (h : Byt w w.heap.size A n l) (hg : w.grownBy w' (some g)) (hA : ∀ a, A = some a → a.block ≠ g) : Byt w' w'.heap.size A n l :=
  ⟨h.1, fun hn => by
    obtain ⟨b, off, e, hb, hc⟩ := h.2 hn
    subst e
    exact ⟨b, off, rfl, Nat.lt_of_lt_of_le hb hg.size, fun j hj => (grown_cell hg hb (hA _ rfl)).trans (hc j hj)⟩⟩
def zU : Array Value := #[.slice none 0 0, .int .i64 0, .slice none 0 0, .int .u32 0, .int .i64 0, .bool false, .slice none 0 0]
/-- what 'Parse' gives: u, f. -/
def ParseUP (w w' : World) (e : Ending) : Except (Int × List UInt8) UpD → Prop
  | .error x => ∃ v, e = .returned (.tuple #[.agg zU, .agg #[.int .i64 3, .int .i64 x.1, v]]) ∧ OwnB w' w.heap.size v x.2.length x.2
  | .ok d => ∃ A1 c1 A n c A2 c2, e = .returned (.tuple #[.agg #[.slice A1 d.1.length c1, .int .i64 d.2.1.o, .slice A n c, .int .u32 d.2.1.h, .int .i64 d.2.1.m, .bool d.2.1.b, .slice A2 d.2.2.length c2], .agg zF]) ∧ Seen pfK w' (fun b => b < w'.heap.size) A1 d.1.length d.1 ∧ Seen intK w' (fun b => b < w'.heap.size) A n d.2.1.zs ∧ Seen pfK w' (fun b => b < w'.heap.size) A2 d.2.2.length d.2.2
set_option maxRecDepth 100000 in
set_option maxHeartbeats 4000000 in
theorem part_any (w : World) (p g : Nat) (s : St) (h : Src w g s) (hp : w.cell? ⟨p, 0, none⟩ = some (.pointer (some ⟨g, 0, none⟩))) (hpl : p < w.heap.size) (hpg : p ≠ g) : Calls Try.prog 37 #[.pointer (some ⟨p, 0, none⟩)] w fun e w' => ∃ v, e = .returned v ∧ OwnB w' w.heap.size v (prV s).length (prV s) ∧ Src w' g (prS s) ∧ w.grownBy w' (some g) := by
  have hlt := h.lt
  go_enter Try.func37, Try.ntmps37
  go_upto_region 1 with (fail)
  -- region 1: 0 1 2C 3C 4
  try refine wp_region_noPanic ?_
  have hs1r : w.grownBy w.drew (some g) := grown_drew (grown_refl _ _)
  refine wp_region_held_drew (S := fun w' => w.grownBy w' (some g)) (by kernel_rfl) hs1r (fun _ => ?_)
  (refine held_takeA 0 (by rfl) ?_ (by kernel_rfl) (fun _ _ _ h => h) hs1r ?_ ?_; rotate_left; (focus (intro wq hSw; have hrd : ∀ b' o, b' < w.heap.size → b' ≠ g → wq.cell? ⟨b', o, none⟩ = w.cell? ⟨b', o, none⟩ := (fun b' o h hne => grown_cell hSw h hne); go_simp; try with_reducible rfl; done)); try simp only [Act.put, List.setIfInBounds_toArray, List.set_cons_zero, List.set_cons_succ])
  (refine held_takeA 1 (by rfl) ?_ (by kernel_rfl) (fun _ _ _ h => h) hs1r ?_ ?_; rotate_left; (focus (intro wq hSw; have hrd : ∀ b' o, b' < w.heap.size → b' ≠ g → wq.cell? ⟨b', o, none⟩ = w.cell? ⟨b', o, none⟩ := (fun b' o h hne => grown_cell hSw h hne); go_simp; try with_reducible rfl; done)); try simp only [Act.put, List.setIfInBounds_toArray, List.set_cons_zero, List.set_cons_succ])
  refine held_callA 2 (by rfl) (by kernel_rfl) (by rfl) (fun KQ hKQ => ?_)
  go_simp
  refine (u16_any w.drew g s h.drew).mono ?_
  rintro e w3 ⟨rfl, h3, hg3⟩
  have eN : numV s 2 = prN s := rfl
  have eS : (tk s 2).1 = prS1 s := rfl
  rw [eN]
  rw [eS] at h3
  have hG := grown_trans (grown_drew (grown_refl w (some g))) hg3
  refine hKQ.out _ _ (grown_trans hs1r hg3) (held_mono (S' := fun w' => w3.grownBy w' (some g)) (fun w' h => grown_trans (grown_trans hs1r hg3) h) _ _ _ _ ?_)
  clear hKQ KQ
  have hs2r : w3.grownBy w3 (some g) := grown_refl _ _
  try simp only [Act.put, List.setIfInBounds_toArray, List.set_cons_zero, List.set_cons_succ]
  refine held_callA 3 (by rfl) (by kernel_rfl) (by rfl) (fun KQ hKQ => ?_)
  go_simp
  refine (bytes_any w3 g (prS1 s) h3 (prN s)).mono ?_
  rintro e w4 ⟨v4, rfl, own4, h4, hg4⟩
  have hG4 := grown_trans hG hg4
  refine hKQ.out _ _ (grown_trans hs2r hg4) (held_mono (S' := fun w' => w4.grownBy w' (some g)) (fun w' h => grown_trans (grown_trans hs2r hg4) h) _ _ _ _ ?_)
  clear hKQ KQ
  have hs3r : w4.grownBy w4 (some g) := grown_refl _ _
  try simp only [Act.put, List.setIfInBounds_toArray, List.set_cons_zero, List.set_cons_succ]
  (refine held_takeA 4 (by rfl) ?_ (by kernel_rfl) (fun _ _ _ h => h) hs3r ?_ ?_; rotate_left; (focus (intro wq hSw; have hrd : ∀ b' o, b' < w4.heap.size → b' ≠ g → wq.cell? ⟨b', o, none⟩ = w4.cell? ⟨b', o, none⟩ := (fun b' o h hne => grown_cell hSw h hne); go_simp; try with_reducible rfl; done)); try simp only [Act.put, List.setIfInBounds_toArray, List.set_cons_zero, List.set_cons_succ])
  refine wpAnyH_done (by kernel_rfl) ?_ _
  try refine NoPanic.normal ?_
  go_wp2_with fail
  go_ret
  exact ⟨_, rfl, own4.less hG.size, h4, hG4⟩
set_option maxRecDepth 100000 in
set_option maxHeartbeats 4000000 in
theorem upFault_any (w : World) (sub : Int) : Calls Try.prog 35 #[.int .i64 sub] w fun e w' => e = .returned (.tuple #[.agg #[.slice none 0 0, .int .i64 0, .slice none 0 0, .int .u32 0, .int .i64 0, .bool false, .slice none 0 0], .agg #[.int .i64 3, .int .i64 sub, .slice none 0 0]]) ∧ Below w.heap.size w w' := by
  have hi : (Try.prog.info? 28).map (·.size) = some 7 := by kernel_rfl
  have hj : (Try.prog.info? 44).map (·.size) = some 3 := by kernel_rfl
  have hB := ((Below.refl w.heap.size w).alloc (Nat.le_refl _) (.cells #[.slice none 0 0, .int .i64 0, .slice none 0 0, .int .u32 0, .int .i64 0, .bool false, .slice none 0 0] 28)).alloc (by simp) (.cells #[.int .i64 0, .int .i64 0, .slice none 0 0] 44)
  have hr := (Blk.new w 28 #[.slice none 0 0, .int .i64 0, .slice none 0 0, .int .u32 0, .int .i64 0, .bool false, .slice none 0 0]).alloc (.cells #[.int .i64 0, .int .i64 0, .slice none 0 0] 44)
  have hr' : Blk ((w.alloc (.cells #[.slice none 0 0, .int .i64 0, .slice none 0 0, .int .u32 0, .int .i64 0, .bool false, .slice none 0 0] 28)).alloc (.cells #[.int .i64 0, .int .i64 0, .slice none 0 0] 44)) (w.heap.size + 1) 44 #[.int .i64 0, .int .i64 0, .slice none 0 0] := by
    have := Blk.new (w.alloc (.cells #[.slice none 0 0, .int .i64 0, .slice none 0 0, .int .u32 0, .int .i64 0, .bool false, .slice none 0 0] 28)) 44 #[.int .i64 0, .int .i64 0, .slice none 0 0]
    simpa using this
  go_enter Try.func35, Try.ntmps35
  go_upto_region 1 with (fail)
  generalize (w.alloc (.cells #[.slice none 0 0, .int .i64 0, .slice none 0 0, .int .u32 0, .int .i64 0, .bool false, .slice none 0 0] 28)).alloc (.cells #[.int .i64 0, .int .i64 0, .slice none 0 0] 44) = w1 at *
  go_wp2_with (first
    | (refine wpList_store_blk rfl hr 28 (.tmp 2) (.tmp 4) rfl rfl rfl rfl hi (by simp [Value.oneCell']) ?_; intro w2 hr2 hg2; have hr2' := hr'.grown hg2 (by simp))
    | (refine wpList_store_blk rfl hr2' 44 (.tmp 3) (.tmp 6) rfl rfl rfl rfl hj (by simp [Value.oneCell']) ?_; intro w3 hr3' hg3; have hr3 := hr2.grown hg3 (by simp)))
  refine bodyPost_ret (results_2c rfl _ rfl rfl (load_blk hr3 Try.underlying28 rfl hi) (load_blk hr3' Try.underlying44 rfl hj)) rfl ?_
  have hB2 := below_own hB hg2 hB.size (Nat.le_refl _)
  exact ⟨rfl, below_own hB2 hg3 hB2.size (by omega)⟩
set_option maxRecDepth 100000 in
set_option maxHeartbeats 4000000 in
theorem refUpFault_any (w : World) (sub : Int) : Calls Try.prog 48 #[.int .i64 sub] w fun e w' => e = .returned (.tuple #[.agg #[.slice none 0 0, .int .i64 0, .slice none 0 0, .int .u32 0, .int .i64 0, .bool false, .slice none 0 0], .agg #[.int .i64 3, .int .i64 sub, .slice none 0 0]]) ∧ Below w.heap.size w w' := by
  have hi : (Try.prog.info? 33).map (·.size) = some 7 := by kernel_rfl
  have hj : (Try.prog.info? 44).map (·.size) = some 3 := by kernel_rfl
  have hB := ((Below.refl w.heap.size w).alloc (Nat.le_refl _) (.cells #[.slice none 0 0, .int .i64 0, .slice none 0 0, .int .u32 0, .int .i64 0, .bool false, .slice none 0 0] 33)).alloc (by simp) (.cells #[.int .i64 0, .int .i64 0, .slice none 0 0] 44)
  have hr := (Blk.new w 33 #[.slice none 0 0, .int .i64 0, .slice none 0 0, .int .u32 0, .int .i64 0, .bool false, .slice none 0 0]).alloc (.cells #[.int .i64 0, .int .i64 0, .slice none 0 0] 44)
  have hr' : Blk ((w.alloc (.cells #[.slice none 0 0, .int .i64 0, .slice none 0 0, .int .u32 0, .int .i64 0, .bool false, .slice none 0 0] 33)).alloc (.cells #[.int .i64 0, .int .i64 0, .slice none 0 0] 44)) (w.heap.size + 1) 44 #[.int .i64 0, .int .i64 0, .slice none 0 0] := by
    have := Blk.new (w.alloc (.cells #[.slice none 0 0, .int .i64 0, .slice none 0 0, .int .u32 0, .int .i64 0, .bool false, .slice none 0 0] 33)) 44 #[.int .i64 0, .int .i64 0, .slice none 0 0]
    simpa using this
  go_enter Try.func48, Try.ntmps48
  go_upto_region 1 with (fail)
  generalize (w.alloc (.cells #[.slice none 0 0, .int .i64 0, .slice none 0 0, .int .u32 0, .int .i64 0, .bool false, .slice none 0 0] 33)).alloc (.cells #[.int .i64 0, .int .i64 0, .slice none 0 0] 44) = w1 at *
  go_wp2_with (first
    | (refine wpList_store_blk rfl hr 33 (.tmp 2) (.tmp 4) rfl rfl rfl rfl hi (by simp [Value.oneCell']) ?_; intro w2 hr2 hg2; have hr2' := hr'.grown hg2 (by simp))
    | (refine wpList_store_blk rfl hr2' 44 (.tmp 3) (.tmp 6) rfl rfl rfl rfl hj (by simp [Value.oneCell']) ?_; intro w3 hr3' hg3; have hr3 := hr2.grown hg3 (by simp)))
  refine bodyPost_ret (results_2c rfl _ rfl rfl (load_blk hr3 Try.underlying33 rfl hi) (load_blk hr3' Try.underlying44 rfl hj)) rfl ?_
  have hB2 := below_own hB hg2 hB.size (Nat.le_refl _)
  exact ⟨rfl, below_own hB2 hg3 hB2.size (by omega)⟩
end Go.Proofs.Ytfnclmacodchfaa
