/- chk.words: its iterator. chk: small functions. chk.Sum: what it computes. chk: the other functions' contracts. chk: plain laws on sums of words. chk: Update, Pseudo, and the law of sums of words. -/
import Derived.Test.YthbfnppgaaeilaaDoorRows
import Derived.Test.YthbfnppgaaeilaaDoorLib
import Derived.Lib.Hide
import Derived.RangeFuncNested
import Derived.RangeFuncBox
import Derived.RangeFuncLeaves
import Derived.Shelf.Abstract
import Derived.OwnWalkIn
import Derived.TacticsInMore
import Derived.LoopNIn
import Derived.LoopIn
import Derived.Handy
import Derived.Deep.RegionHeld3
namespace Go.Proofs.YthbfnppgaaeilaaDoor
set_option linter.unusedVariables false
open Go.RowKit Go.Shelf
attribute [local go_sem] Oper.semAt_some

/-- the k-th word. -/
def wordAt (l : List UInt8) (k : Nat) : Int := byAt l (2 * k) * 256 + byAt l (2 * k + 1)
def upto {α : Type} (f : Nat → α) (k : Nat) : List α := (List.range k).map f
theorem upto_succ {α : Type} (f : Nat → α) (k : Nat) : upto f (k + 1) = upto f k ++ [f k] := by simp [upto, List.range_succ]
theorem upto_length {α : Type} (f : Nat → α) (k : Nat) : (upto f k).length = k := by simp [upto]

/-- nothing below n₀ has turned, nor the block Bs. -/
def KeepB (n₀ Bs : Nat) (W W' : World) : Prop := Below n₀ W W' ∧ W'.heap[Bs]? = W.heap[Bs]?
theorem KeepB.refl (n₀ Bs : Nat) (W : World) : KeepB n₀ Bs W W := ⟨Below.refl _ _, rfl⟩
theorem KeepB.trans {n₀ Bs : Nat} {A B C : World} (h : KeepB n₀ Bs A B) (k : KeepB n₀ Bs B C) : KeepB n₀ Bs A C := ⟨h.1.trans k.1, k.2.trans h.2⟩
theorem keepB_b {n₀ Bs : Nat} {w : World} (hn : n₀ ≤ w.heap.size) (hB : Bs < w.heap.size) (W : World) (l : Nat) (o o' : Obj) (hl : w.heap.size ≤ l) (h : W.heap[l]? = some o) (h1 : o.isCells = false) (h2 : o.isWalk = false) : KeepB n₀ Bs W (W.putObj l o') :=
  ⟨belowK_b hn W l o o' hl h h1 h2, World.putObj_heap_other (by omega)⟩

set_option maxRecDepth 100000 in
set_option maxHeartbeats 1000000 in
theorem words1_in (F : Fence) (n : Nat) (h7 : F.fn 95) (hro : F.round = none) (hn : 1 ≤ n) (l Bs n₀ len cap : Nat) (A : Option Addr) (zs : List UInt8) (hlen : len ≤ 140737488351232) (J Jx : List Int → World → Prop)
    (hY : ∀ pre x W, J pre W → pre.length < (len + 1) / 2 → YieldAt F (n - 1) Tryd.prog l #[.int .i64 x] W fun e W' =>
      (e = .returned (.bool true) ∧ J (pre ++ [x]) W' ∧ KeepB n₀ Bs W W') ∨ (e = .returned (.bool false) ∧ Jx (pre ++ [x]) W'))
    (W : World) (hBs : W.cell? ⟨Bs, 0, none⟩ = some (.slice A len cap)) (hc : Byt W n₀ A len zs) (h0 : J [] W) :
    CallsIn F n Tryd.prog 95 #[.func (.yield l) #[] #[], .pointer (some ⟨Bs, 0, none⟩)] W fun e W' => (∃ v, e = .returned v) ∧
      ((∃ ys, ys = upto (wordAt zs) ((len + 1) / 2) ∧ J ys W') ∨ (∃ pre, (∃ k, k ≤ (len + 1) / 2 ∧ pre = upto (wordAt zs) k) ∧ Jx pre W')) := by
  refine callsIn_of_wp Tryd.func95 rfl h7 ?_ hro
  simp only [Tryd.ntmps95, List.size_toArray, List.length_cons, List.length_nil, Nat.reduceAdd, Nat.reduceSub, Array.replicate_succ, Array.replicate_zero, List.push_toArray, List.append_toArray, List.nil_append, List.cons_append]
  gi_wp2
  gi_loopw [3, 4] (fun i c wr => ∃ k : Nat, 2 * k ≤ len + 1 ∧ i = .int .i64 (2 * k : Nat) ∧ J (upto (wordAt zs) k) wr ∧ KeepB n₀ Bs W wr)
    (fun i _ _ => len + 2 - (intOf i).toNat)
  case atStart => exact ⟨0, Nat.zero_le _, rfl, h0, KeepB.refl _ _ _⟩
  case round =>
    obtain ⟨k, hk, rfl, hJs, hnx⟩ := hrel
    have hbs := (World.cell?_of_block (w := W) (a := ⟨Bs, 0, none⟩) hnx.2).trans hBs
    by_cases hlt : 2 * k < len
    · obtain ⟨fn, tmps, assign, body, hy, hR⟩ := hY _ (wordAt zs k) wr hJs (by rw [upto_length]; omega)
      obtain ⟨b, off, rfl, hb, hcc⟩ := (hc.below hnx.1).2 (by omega)
      have hc1 := hcc (2 * k) hlt
      have b1 := byAt_lo zs (2 * k)
      have b2 := byAt_hi zs (2 * k)
      by_cases hlt2 : 2 * k + 1 < len
      · have hc2 := hcc (2 * k + 1) hlt2
        have b3 := byAt_lo zs (2 * k + 1)
        have b4 := byAt_hi zs (2 * k + 1)
        clear hcc
        have e : wordAt zs k = bits .or .i64 (byAt zs (2 * k) * 256) (byAt zs (2 * k + 1)) := by rw [shl8_or _ _ b1 b2 b3 b4]; rfl
        rw [e] at hy
        clear e
        gi_wp2
        refine hR.mono ?_
        rintro e W3 (⟨rfl, hJ3, hk3⟩ | ⟨rfl, hJx3⟩)
        · gi_wp2
          go_roundw
          case rel => exact ⟨k + 1, by omega, by go_num, by rw [upto_succ]; exact hJ3, hnx.trans hk3⟩
          case measure => simp [intOf]; omega
        · gi_wp2
          refine bodyPost_ret (results_none rfl _ _ _) rfl ?_
          exact ⟨⟨_, rfl⟩, .inr ⟨_, ⟨k + 1, by omega, (upto_succ _ _).symm⟩, hJx3⟩⟩
      · have e : wordAt zs k = byAt zs (2 * k) * 256 := by unfold wordAt; rw [byAt_out zs (2 * k + 1) (by have := hc.1; omega)]; exact Int.add_zero _
        rw [e] at hy
        clear hcc e
        gi_wp2
        refine hR.mono ?_
        rintro e W3 (⟨rfl, hJ3, hk3⟩ | ⟨rfl, hJx3⟩)
        · gi_wp2
          go_roundw
          case rel => exact ⟨k + 1, by omega, by go_num, by rw [upto_succ]; exact hJ3, hnx.trans hk3⟩
          case measure => simp [intOf]; omega
        · gi_wp2
          refine bodyPost_ret (results_none rfl _ _ _) rfl ?_
          exact ⟨⟨_, rfl⟩, .inr ⟨_, ⟨k + 1, by omega, (upto_succ _ _).symm⟩, hJx3⟩⟩
    · gi_wp2
      go_end0
      exact ⟨⟨_, rfl⟩, .inl ⟨_, rfl, by rw [show (len + 1) / 2 = k from by omega]; exact hJs⟩⟩

theorem words1_out (F : Fence) (n : Nat) (h7 : F.fn 74) (hro : F.round = none) (A : Option Addr) (len cap : Nat) (w : World) :
    CallsIn F n Tryd.prog 74 #[.slice A len cap] w fun e w' => e = .returned (.func (.func 95) #[] #[.pointer (some ⟨w.heap.size, 0, none⟩)]) ∧ w' = w.alloc (.cells #[.slice A len cap] 43) := by
  refine callsIn_of_wp Tryd.func74 rfl h7 ?_ hro
  simp only [Tryd.ntmps74, List.size_toArray, List.length_cons, List.length_nil, Nat.reduceAdd, Nat.reduceSub, Array.replicate_succ, Array.replicate_zero, List.push_toArray, List.append_toArray, List.nil_append, List.cons_append]
  gi_wp2
  go_ret
  exact ⟨rfl, rfl⟩

/-- words(b) hands back an iterator that gives all the words. -/
theorem words_stops (F : Fence) (n : Nat) (h7 : F.fn 95) (hro : F.round = none) (hn : 1 ≤ n) (Bs n₀ len cap : Nat) (A : Option Addr) (zs : List UInt8) (hlen : len ≤ 140737488351232) (w : World)
    (hBs : Bs < w.heap.size) (hn₀ : n₀ ≤ w.heap.size) (hc : w.cell? ⟨Bs, 0, none⟩ = some (.slice A len cap)) (hI : Byt w n₀ A len zs) :
    SeqStopsK F n Tryd.prog 95 #[.pointer (some ⟨Bs, 0, none⟩)] (fun x : Int => #[Value.int .i64 x]) (KeepB n₀ Bs) (fun ys => ys = upto (wordAt zs) ((len + 1) / 2)) (fun pre => ∃ k, k ≤ (len + 1) / 2 ∧ pre = upto (wordAt zs) k) ((len + 1) / 2) w := fun l J Jx W hW _ _ hY h0 => by
  have hc' := (hW.cell (p := ⟨Bs, 0, none⟩) hBs).trans hc
  exact words1_in F n h7 hro hn l Bs n₀ len cap A zs hlen J Jx hY W hc' (hI.below (hW.mono hn₀)) h0

end Go.Proofs.YthbfnppgaaeilaaDoor

namespace Go.Proofs.YthbfnppgaaeilaaDoor
set_option linter.unusedVariables false
open Go.RowKit
set_option maxHeartbeats 400000 in
theorem word_any (n : Int) (w : World) :
    Calls Tryd.prog 81 #[.int .i64 n] w fun e w' => e = .returned (.int .i64 (n % 65536)) ∧ w = w' := by
  go_enter Tryd.func81, Tryd.ntmps81
  go_wp2
  go_ret
  exact ⟨rfl, rfl⟩

def foldV (n : Int) : Int := if n ≤ 65535 then n else (n - 1) % 65535 + 1
theorem foldV_step (n : Int) (h : 65535 < n) : foldV (n % 65536 + n / 65536) = foldV n := by
  unfold foldV; split <;> split <;> omega

set_option maxHeartbeats 400000 in
theorem fold_any (n : Int) (w : World) (hn : n ≤ 9223372036854775807) :
    Calls Tryd.prog 73 #[.int .i64 n] w fun e w' => e = .returned (.int .i64 (foldV n)) ∧ w = w' := by
  go_enter Tryd.func73, Tryd.ntmps73
  go_wp2
  go_step3
  go_wp2
  go_step3
  go_wp2
  go_loop [0] (fun v => ∃ m : Int, foldV m = foldV n ∧ m ≤ 9223372036854775807 ∧ v = .int .i64 m) (fun v => (intOf v).toNat)
  case atStart => exact ⟨n, rfl, hn, rfl⟩
  case round =>
    obtain ⟨m, hm, hm2, rfl⟩ := hrel
    have H := Lib.hid hm
    clear hm
    by_cases hlt : m ≤ 65535
    · go_wp2
      try rw [Exit.noGoto_ret]
      go_ret
      exact ⟨ret_int (by rw [← H.out]; simp [foldV, hlt]), rfl⟩
    · go_wp2
      go_round
      case rel => exact ⟨_, by rw [foldV_step m (by omega)]; exact H.out, by omega, rfl⟩
      case measure => simp [intOf]; omega
set_option maxHeartbeats 400000 in
theorem refAdd_any (s t : Int) (w : World) :
    Calls Tryd.prog 57 #[.int .i64 s, .int .i64 t] w fun e w' => e = .returned (.int .i64 (foldV (s % 65536 + t % 65536))) ∧ w = w' := by
  go_enter Tryd.func57, Tryd.ntmps57
  go_wp2_with (go_at_call 81; refine (word_any _ _).mono ?_; rintro e w' ⟨rfl, rfl⟩)
  all_goals go_ret
  · exact ⟨ret_int (by unfold foldV; split <;> omega), rfl⟩
  · exact ⟨ret_int (by unfold foldV; split <;> omega), rfl⟩
end Go.Proofs.YthbfnppgaaeilaaDoor

namespace Go.Proofs.YthbfnppgaaeilaaDoor
set_option linter.unusedVariables false
open Go.RowKit Go.Shelf

/-- the sum of the first k words. -/
def wsum (l : List UInt8) : Nat → Int
  | 0 => 0
  | k + 1 => wsum l k + wordAt l k
theorem wordAt_lo (l : List UInt8) (k : Nat) : 0 ≤ wordAt l k := by
  have := byAt_lo l (2 * k); have := byAt_lo l (2 * k + 1); unfold wordAt; omega
theorem wordAt_hi (l : List UInt8) (k : Nat) : wordAt l k ≤ 65535 := by
  have := byAt_hi l (2 * k); have := byAt_hi l (2 * k + 1); unfold wordAt; omega
theorem wsum_lo (l : List UInt8) (k : Nat) : 0 ≤ wsum l k := by
  induction k with
  | zero => exact Int.le_refl _
  | succ k ih => have := wordAt_lo l k; unfold wsum; omega
theorem wsum_hi (l : List UInt8) (k : Nat) : wsum l k ≤ 65535 * k := by
  induction k with
  | zero => exact Int.le_refl _
  | succ k ih => have := wordAt_hi l k; unfold wsum; omega

def sumW : List Int → Int := List.foldl (fun s v => wrap64 (s + v)) 0
theorem sumW_snoc (pre : List Int) (x : Int) : sumW (pre ++ [x]) = wrap64 (sumW pre + x) := by simp [sumW]
theorem sumW_upto (l : List UInt8) (k : Nat) (hk : k ≤ 140737488351232) : sumW (upto (wordAt l) k) = wsum l k := by
  induction k with
  | zero => rfl
  | succ k ih =>
    rw [upto_succ, sumW_snoc, ih (by omega)]
    have h1 := wsum_lo l (k + 1); have h2 := wsum_hi l (k + 1)
    have e : wsum l (k + 1) = wsum l k + wordAt l k := rfl
    rw [e] at h1 h2
    rw [e]
    exact IntWalk.wrap64_in _ ⟨by omega, by omega⟩

/-- the check sum of bytes. -/
def csum (l : List UInt8) : Int := foldV (wsum l ((l.length + 1) / 2))

attribute [local go_sem] Oper.semAt_some
set_option maxRecDepth 100000 in
set_option maxHeartbeats 1000000 in
theorem sum_in (n : Nat) (hn : 3 ≤ n) (A : Option Addr) (len cap : Nat) (zs : List UInt8) (hlen : len ≤ 140737488351232) (w : World) (hI : Byt w w.heap.size A len zs) :
    CallsIn Fence.wide n Tryd.prog 53 #[.slice A len cap] w fun e W' => e = .returned (.int .i64 (csum zs)) ∧ Below w.heap.size w W' := by
  have h1 : 1 ≤ n := by omega
  have hro : Fence.wide.round = none := rfl
  have hfn : ∀ f, Fence.wide.fn f := fun _ => trivial
  refine callsIn_of_wp_marks Tryd.func53 rfl (hfn _) ?_ hro
  simp only [Tryd.ntmps53, List.size_toArray, List.length_cons, List.length_nil, Nat.reduceAdd, Nat.reduceSub, Array.replicate_succ, Array.replicate_zero, List.push_toArray, List.append_toArray, List.nil_append, List.cons_append]
  gi_wp2_with (gi_at_call 74; refine (words1_out Fence.wide (n - 1) (hfn _) hro _ _ _ _).mono ?_; rintro e w' ⟨rfl, rfl⟩)
  have bS := Boxed.new w 3 (.int .i64 0)
  have bN := Boxed.new (w.alloc (.cells #[.int .i64 0] 3)) 43 (.slice A len cap)
  rw [World.size_alloc] at bN
  have hB0 : Below w.heap.size w ((w.alloc (.cells #[.int .i64 0] 3)).alloc (.cells #[.slice A len cap] 43)) := ((Below.refl _ w).alloc (Nat.le_refl _) _).alloc (by simp) _
  refine wpIn_rangeFunc_ownG hro h1 (gf := 95) (lb := #[.pointer (some ⟨w.heap.size + 1, 0, none⟩)]) rfl (hfn _) (enters_of Tryd.func95 (by kernel_rfl) rfl)
    (words_stops Fence.wide (n - 1) (hfn _) hro (by omega) (w.heap.size + 1) w.heap.size len cap A zs hlen _ (by simp) (by simp; omega) bN.cell (hI.below hB0)) KeepB.trans (keepB_b (by simp; omega) (by simp)) (Below.refl _ _) (fun _ => rfl)
    (fun pre W => (W.cell? ⟨w.heap.size, 0, none⟩ = some (.int .i64 (sumW pre)) ∧ W.frozen? ⟨w.heap.size, 0, none⟩ = false) ∧ Below w.heap.size w W)
    (fun _ _ _ => False)
    (OwnFrom.and (Own.from (fun s A B row hs hg hr => ⟨cell_kept hs.1 hg hr, (frozen_kept hs.1 hg hr).trans hs.2⟩) _) (ownFrom_below (Nat.le_refl _) (by simp; omega)))
    (fun _ _ _ _ _ hs _ _ => hs)
    ⟨⟨(bS.alloc _).cell, (bS.alloc _).frozen⟩, hB0⟩
    (fun x => { tmps := #[.slice A len cap, undef, .int .i64 0, .pointer (some ⟨w.heap.size, 0, none⟩), .int .i64 x, .slice A len cap, .func (.func 95) #[] #[.pointer (some ⟨w.heap.size + 1, 0, none⟩)], .int .i64 x, undef, undef, undef, undef, undef], defers := [] }) ?assign ?body ?done ?stop
  case assign =>
    intro l x W K hK
    gi_wp2
    exact hK
  case body =>
    rintro l pre x W ⟨⟨hc, hf⟩, hB⟩ _
    gi_wp2
    exact ⟨(KeepsOthers.setCell _ _ _).from _, ⟨(Below.refl w.heap.size W).setCell (p := ⟨w.heap.size, 0, none⟩) (Nat.le_refl _) _, Below.heap_setCell _ _ _ _ (by simp)⟩, ⟨by rw [sumW_snoc]; exact World.cell?_setCell_same' _ _ _ (by rw [hc]; rfl), by rw [World.frozen?_setCell]; exact hf⟩, hB.setCell (p := ⟨w.heap.size, 0, none⟩) (Nat.le_refl _) _⟩
  case done =>
    rintro D ys W hD rfl ⟨⟨hc, _⟩, hB⟩ hK
    rw [sumW_upto zs _ (by omega)] at hc
    have b1 := wsum_lo zs ((len + 1) / 2)
    have b2 := wsum_hi zs ((len + 1) / 2)
    gi_wp2_with (gi_at_call 73; refine (callsIn_wide.2 (fold_any _ _ (by omega))).mono ?_; rintro e w' ⟨rfl, rfl⟩)
    refine ⟨by simp, .inl ⟨_, _, rfl, run_takeDeferred hK, ?_⟩⟩
    refine ⟨_, results_tmp rfl _ _ _, ?_, hB.trans (belowK_b (w := w) (Nat.le_refl _) W D _ _ (by simp at hD; omega) hK rfl rfl)⟩
    have E : foldV (wsum zs ((len + 1) / 2)) = csum zs := by unfold csum; rw [hI.1]
    exact ret_int E
  case stop =>
    rintro D c pre W _ _ h _
    exact h.elim

theorem sum_any (A : Option Addr) (len cap : Nat) (zs : List UInt8) (hlen : len ≤ 140737488351232) (w : World) (hI : Byt w w.heap.size A len zs) :
    Calls Tryd.prog 53 #[.slice A len cap] w fun e W' => e = .returned (.int .i64 (csum zs)) ∧ Below w.heap.size w W' :=
  callsIn_wide.1 (sum_in 3 (by omega) A len cap zs hlen w hI)

end Go.Proofs.YthbfnppgaaeilaaDoor

namespace Go.Proofs.YthbfnppgaaeilaaDoor
set_option linter.unusedVariables false
open Go.RowKit

theorem foldV_lo (n : Int) (h : 0 ≤ n) : 0 ≤ foldV n := by unfold foldV; split <;> omega
theorem foldV_hi (n : Int) : foldV n ≤ 65535 := by unfold foldV; split <;> omega
theorem csum_lo (l : List UInt8) : 0 ≤ csum l := foldV_lo _ (wsum_lo _ _)
theorem csum_hi (l : List UInt8) : csum l ≤ 65535 := foldV_hi _
theorem foldV_foldV (a b : Int) (ha : 0 ≤ a) (hb : 0 ≤ b) : foldV (foldV a + b) = foldV (a + b) := by
  unfold foldV; repeat' (first | omega | split)

set_option maxHeartbeats 400000 in
theorem refSum_any (A : Option Addr) (len cap : Nat) (zs : List UInt8) (hlen : len ≤ 140737488351232) (w : World) (hI : Byt w w.heap.size A len zs) :
    Calls Tryd.prog 58 #[.slice A len cap] w fun e w' => e = .returned (.int .i64 (csum zs)) ∧ w = w' := by
  go_enter Tryd.func58, Tryd.ntmps58
  go_wp2
  go_loop [3, 4, 5] (fun s i _ => ∃ k : Nat, 2 * k ≤ len + 1 ∧ i = .int .i64 (2 * k : Nat) ∧ s = .int .i64 (foldV (wsum zs k))) (fun _ i _ => len + 2 - (intOf i).toNat)
  case atStart => exact ⟨0, Nat.zero_le _, rfl, rfl⟩
  case round =>
    obtain ⟨k, hk, rfl, rfl⟩ := hrel
    have s1 := foldV_lo _ (wsum_lo zs k)
    have s2 := foldV_hi (wsum zs k)
    by_cases hlt : 2 * k < len
    · obtain ⟨b, off, rfl, hb, hcc⟩ := hI.2 (by omega)
      have hc1 := hcc (2 * k) hlt
      have b1 := byAt_lo zs (2 * k)
      have b2 := byAt_hi zs (2 * k)
      have H : Hid (foldV (foldV (wsum zs k) % 65536 + (256 * byAt zs (2 * k) + byAt zs (2 * k + 1)) % 65536) = foldV (wsum zs (k + 1))) := by
        have b3 := byAt_lo zs (2 * k + 1)
        have b4 := byAt_hi zs (2 * k + 1)
        rw [show wsum zs (k + 1) = wsum zs k + wordAt zs k from rfl, ← foldV_foldV _ _ (wsum_lo zs k) (wordAt_lo zs k)]
        unfold wordAt
        exact congrArg foldV (by omega)
      by_cases hlt2 : 2 * k + 1 < len
      · have hc2 := hcc (2 * k + 1) hlt2
        have b3 := byAt_lo zs (2 * k + 1)
        have b4 := byAt_hi zs (2 * k + 1)
        clear hcc
        go_wp2_with (go_at_call 57; refine (refAdd_any _ _ _).mono ?_; rintro e w' ⟨rfl, rfl⟩)
        go_round
        case rel => exact ⟨k + 1, by omega, by go_num, by rw [H.out]⟩
        case measure => simp [intOf]; omega
      · clear hcc
        have e : byAt zs (2 * k + 1) = 0 := byAt_out zs _ (by have := hI.1; omega)
        rw [e, Int.add_zero] at H
        clear e
        go_wp2_with (go_at_call 57; refine (refAdd_any _ _ _).mono ?_; rintro e w' ⟨rfl, rfl⟩)
        go_round
        case rel => exact ⟨k + 1, by omega, by go_num, by rw [H.out]⟩
        case measure => simp [intOf]; omega
    · have H : Hid (foldV (wsum zs k) = csum zs) := by unfold csum; rw [hI.1, show (len + 1) / 2 = k from by omega]; trivial
      go_wp2
      go_ret
      exact ⟨ret_int H.out, rfl⟩

set_option maxHeartbeats 400000 in
theorem add_any (s t : Int) (w : World) :
    Calls Tryd.prog 52 #[.int .i64 s, .int .i64 t] w fun e w' => e = .returned (.int .i64 (foldV (s % 65536 + t % 65536))) ∧ w = w' := by
  go_enter Tryd.func52, Tryd.ntmps52
  go_wp2_with (go_at_call 73; refine (fold_any _ _ (by omega)).mono ?_; rintro e w' ⟨rfl, rfl⟩)
  go_ret
  exact ⟨rfl, rfl⟩

set_option maxHeartbeats 400000 in
theorem of_any (A : Option Addr) (len cap : Nat) (zs : List UInt8) (hlen : len ≤ 140737488351232) (w : World) (hI : Byt w w.heap.size A len zs) :
    Calls Tryd.prog 97 #[.slice A len cap] w fun e W' => e = .returned (.int .i64 (65535 - csum zs)) ∧ Below w.heap.size w W' := by
  have s1 := csum_lo zs
  have s2 := csum_hi zs
  go_enter Tryd.func97, Tryd.ntmps97
  go_wp2_with (go_at_call 53; refine (sum_any _ _ _ zs hlen _ hI).mono ?_; rintro e w' ⟨rfl, hb⟩)
  go_ret
  exact ⟨ret_int (by omega), hb⟩
set_option maxHeartbeats 400000 in
theorem refOf_any (A : Option Addr) (len cap : Nat) (zs : List UInt8) (hlen : len ≤ 140737488351232) (w : World) (hI : Byt w w.heap.size A len zs) :
    Calls Tryd.prog 80 #[.slice A len cap] w fun e w' => e = .returned (.int .i64 (65535 - csum zs)) ∧ w = w' := by
  have s1 := csum_lo zs
  have s2 := csum_hi zs
  go_enter Tryd.func80, Tryd.ntmps80
  go_wp2_with (go_at_call 58; refine (refSum_any _ _ _ zs hlen _ hI).mono ?_; rintro e w' ⟨rfl, rfl⟩)
  go_ret
  exact ⟨rfl, rfl⟩
set_option maxHeartbeats 400000 in
theorem good_any (A : Option Addr) (len cap : Nat) (zs : List UInt8) (hlen : len ≤ 140737488351232) (w : World) (hI : Byt w w.heap.size A len zs) :
    Calls Tryd.prog 88 #[.slice A len cap] w fun e W' => e = .returned (.bool (csum zs == 65535)) ∧ Below w.heap.size w W' := by
  go_enter Tryd.func88, Tryd.ntmps88
  go_wp2_with (go_at_call 53; refine (sum_any _ _ _ zs hlen _ hI).mono ?_; rintro e w' ⟨rfl, hb⟩)
  go_ret
  exact ⟨rfl, hb⟩

end Go.Proofs.YthbfnppgaaeilaaDoor

namespace Go.Proofs.YthbfnppgaaeilaaDoor
set_option linter.unusedVariables false
open Go.RowKit

theorem byAt_set_same (l : List UInt8) (j : Nat) (z : Int) (h : j < l.length) (z1 : 0 ≤ z) (z2 : z ≤ 255) : byAt (l.set j (byOf z)) j = z := by
  unfold byAt
  rw [List.getElem?_set_self h, Option.getD_some, byOf_val, Int.emod_eq_of_lt z1 (by omega)]
theorem byAt_set_other (l : List UInt8) (j i : Nat) (c : UInt8) (h : i ≠ j) : byAt (l.set j c) i = byAt l i := by
  unfold byAt
  rw [List.getElem?_set_ne (by omega)]

/-- word j replaced by a number. -/
def putW (l : List UInt8) (j : Nat) (hi lo : Int) : List UInt8 := (l.set (2 * j) (byOf hi)).set (2 * j + 1) (byOf lo)
theorem putW_len (l : List UInt8) (j : Nat) (hi lo : Int) : (putW l j hi lo).length = l.length := by simp [putW]
theorem wordAt_put (l : List UInt8) (j i : Nat) (hi lo : Int) (h : 2 * j + 1 < l.length) (a1 : 0 ≤ hi) (a2 : hi ≤ 255) (b1 : 0 ≤ lo) (b2 : lo ≤ 255) :
    wordAt (putW l j hi lo) i = if i = j then hi * 256 + lo else wordAt l i := by
  unfold wordAt putW
  by_cases e : i = j
  · subst e
    rw [if_pos rfl, byAt_set_other _ _ _ _ (by omega), byAt_set_same _ _ _ (by omega) a1 a2, byAt_set_same _ _ _ (by simp; omega) b1 b2]
  · rw [if_neg e, byAt_set_other _ _ _ _ (by omega), byAt_set_other _ _ _ _ (by omega), byAt_set_other _ _ _ _ (by omega), byAt_set_other _ _ _ _ (by omega)]
theorem wsum_put (l : List UInt8) (j : Nat) (hi lo : Int) (h : 2 * j + 1 < l.length) (a1 : 0 ≤ hi) (a2 : hi ≤ 255) (b1 : 0 ≤ lo) (b2 : lo ≤ 255) (k : Nat) :
    wsum (putW l j hi lo) k = if j < k then wsum l k - wordAt l j + (hi * 256 + lo) else wsum l k := by
  induction k with
  | zero => rfl
  | succ k ih =>
    show wsum (putW l j hi lo) k + wordAt (putW l j hi lo) k = _
    rw [ih, wordAt_put l j k hi lo h a1 a2 b1 b2]
    rw [show wsum l (k + 1) = wsum l k + wordAt l k from rfl]
    by_cases e1 : j < k
    · rw [if_pos e1, if_neg (by omega), if_pos (by omega)]; omega
    · by_cases e2 : k = j
      · subst e2; rw [if_neg e1, if_pos rfl, if_pos (by omega)]; omega
      · rw [if_neg e1, if_neg e2, if_neg (by omega)]
theorem putW_put (l : List UInt8) (j : Nat) (a b c d : Int) (_h : 2 * j + 1 < l.length) : putW (putW l j a b) j c d = putW l j c d := by
  unfold putW
  rw [List.set_comm _ _ (show 2 * j + 1 ≠ 2 * j by omega), List.set_set, List.set_set]
/-- the sum but for one word. -/
def rest (l : List UInt8) (j : Nat) : Int := wsum l ((l.length + 1) / 2) - wordAt l j
theorem wsum_ge (l : List UInt8) (j k : Nat) (h : j < k) : wordAt l j ≤ wsum l k := by
  induction k with
  | zero => omega
  | succ k ih =>
    have h1 := wsum_lo l k; have h2 := wordAt_lo l k
    rw [show wsum l (k + 1) = wsum l k + wordAt l k from rfl]
    by_cases e : j = k
    · subst e; omega
    · have := ih (by omega); omega
theorem rest_lo (l : List UInt8) (j : Nat) (h : 2 * j + 1 < l.length) : 0 ≤ rest l j := by
  have := wsum_ge l j ((l.length + 1) / 2) (by omega)
  unfold rest; omega
theorem csum_put (l : List UInt8) (j : Nat) (hi lo : Int) (h : 2 * j + 1 < l.length) (a1 : 0 ≤ hi) (a2 : hi ≤ 255) (b1 : 0 ≤ lo) (b2 : lo ≤ 255) :
    csum (putW l j hi lo) = foldV (rest l j + (hi * 256 + lo)) := by
  unfold csum rest
  rw [putW_len, wsum_put l j hi lo h a1 a2 b1 b2, if_pos (by omega)]
theorem csum_word (l : List UInt8) (j : Nat) (h : 2 * j + 1 < l.length) : csum l = foldV (rest l j + wordAt l j) := by
  unfold csum rest; congr 1; omega

/-- the seal makes them good. -/
theorem seal_good (R : Int) (h : 0 ≤ R) : foldV (R + (65535 - foldV R)) = 65535 := by
  unfold foldV; repeat' (first | omega | split)
theorem seal_other (R s w : Int) (h : 0 ≤ R) (hs : s = 65535 - foldV R) (w1 : 0 ≤ w) (w2 : w ≤ 65535) :
    (foldV (R + w) == 65535) = (decide (w = s ∨ s = 0 ∧ w = 65535)) := by
  subst hs
  rw [Bool.eq_iff_iff, beq_iff_eq, decide_eq_true_iff]
  unfold foldV
  repeat' (first | omega | split)
/-- the updated sum makes them good again. -/
theorem update_good (R o w C : Int) (hR : 0 ≤ R) (ho : 0 ≤ o) (ho2 : o ≤ 65535) (hw : 0 ≤ w) (hw2 : w ≤ 65535) (hC : C = foldV (R + o)) :
    0 ≤ 65535 - foldV (foldV ((65535 - (65535 - C) % 65536) + (65535 - o % 65536)) + w % 65536) ∧ 65535 - foldV (foldV ((65535 - (65535 - C) % 65536) + (65535 - o % 65536)) + w % 65536) ≤ 65535 ∧
    (0 < R + w → foldV (foldV (R + w) % 65536 + (65535 - foldV (foldV ((65535 - (65535 - C) % 65536) + (65535 - o % 65536)) + w % 65536)) % 65536) = 65535) := by
  have c1 := foldV_lo (R + o) (by omega)
  have c2 := foldV_hi (R + o)
  rw [show 65535 - (65535 - C) % 65536 + (65535 - o % 65536) = C + (65535 - o) from by omega, show w % 65536 = w from by omega, foldV_foldV _ _ (by omega) hw, hC, Int.add_assoc, foldV_foldV _ _ (by omega) (by omega)]
  rw [show R + o + (65535 - o + w) = R + w + 65535 from by omega]
  have d1 := foldV_lo (R + w + 65535) (by omega)
  have d2 := foldV_hi (R + w + 65535)
  refine ⟨by omega, by omega, fun h => ?_⟩
  unfold foldV
  repeat' (first | omega | split)
end Go.Proofs.YthbfnppgaaeilaaDoor

namespace Go.Proofs.YthbfnppgaaeilaaDoor
set_option linter.unusedVariables false
open Go.RowKit

theorem foldV_in (n : Int) (h : n ≤ 65535) : foldV n = n := by unfold foldV; rw [if_pos h]

/-- the sum of a head that is not sent. -/
def pseudo (src dst p n : Int) : Int := foldV (src / 65536 + src % 65536 + dst / 65536 + dst % 65536 + p % 256 + n % 65536)

set_option maxHeartbeats 400000 in
theorem pseudo_any (src dst p n : Int) (w : World) (s1 : 0 ≤ src) (s2 : src ≤ 4294967295) (d1 : 0 ≤ dst) (d2 : dst ≤ 4294967295) :
    Calls Tryd.prog 54 #[.int .u32 src, .int .u32 dst, .int .i64 p, .int .i64 n] w fun e w' => e = .returned (.int .i64 (pseudo src dst p n)) ∧ w = w' := by
  have i0 : ∀ (x0 x1 x2 x3 x4 x5 : Value) (w : World), (Instr.index 113 (.agg #[x0, x1, x2, x3, x4, x5]) (.int .i64 0)).run Tryd.prog w = .ok x0 w := fun _ _ _ _ _ _ _ => by kernel_rfl
  have i1 : ∀ (x0 x1 x2 x3 x4 x5 : Value) (w : World), (Instr.index 113 (.agg #[x0, x1, x2, x3, x4, x5]) (.int .i64 1)).run Tryd.prog w = .ok x1 w := fun _ _ _ _ _ _ _ => by kernel_rfl
  have i2 : ∀ (x0 x1 x2 x3 x4 x5 : Value) (w : World), (Instr.index 113 (.agg #[x0, x1, x2, x3, x4, x5]) (.int .i64 2)).run Tryd.prog w = .ok x2 w := fun _ _ _ _ _ _ _ => by kernel_rfl
  have i3 : ∀ (x0 x1 x2 x3 x4 x5 : Value) (w : World), (Instr.index 113 (.agg #[x0, x1, x2, x3, x4, x5]) (.int .i64 3)).run Tryd.prog w = .ok x3 w := fun _ _ _ _ _ _ _ => by kernel_rfl
  have i4 : ∀ (x0 x1 x2 x3 x4 x5 : Value) (w : World), (Instr.index 113 (.agg #[x0, x1, x2, x3, x4, x5]) (.int .i64 4)).run Tryd.prog w = .ok x4 w := fun _ _ _ _ _ _ _ => by kernel_rfl
  have i5 : ∀ (x0 x1 x2 x3 x4 x5 : Value) (w : World), (Instr.index 113 (.agg #[x0, x1, x2, x3, x4, x5]) (.int .i64 5)).run Tryd.prog w = .ok x5 w := fun _ _ _ _ _ _ _ => by kernel_rfl
  go_enter Tryd.func54, Tryd.ntmps54
  go_wp2
  refine wp_loop_rounds 7 ?_
  repeat any_goals (rw [rounds_succ]; go_wp2_with (go_at_call 73; refine (fold_any _ _ (by omega)).mono ?_; rintro e w' ⟨rfl, rfl⟩))
  go_ret
  exact ⟨rfl, rfl⟩

def pBytes (src dst p n : Int) : List UInt8 := [byOf (src / 16777216), byOf (src / 65536), byOf (src / 256), byOf src, byOf (dst / 16777216), byOf (dst / 65536), byOf (dst / 256), byOf dst, byOf 0, byOf p, byOf (n / 256), byOf n]
theorem csum_pBytes (src dst p n : Int) (s1 : 0 ≤ src) (s2 : src ≤ 4294967295) (d1 : 0 ≤ dst) (d2 : dst ≤ 4294967295) : csum (pBytes src dst p n) = pseudo src dst p n := by
  unfold csum pseudo
  refine congrArg foldV ?_
  rw [show ((pBytes src dst p n).length + 1) / 2 = 6 from by simp [pBytes]]
  simp only [wsum, wordAt, byAt, pBytes, List.getElem?_cons_zero, List.getElem?_cons_succ, Nat.reduceMul, Nat.reduceAdd, Option.getD_some, byOf_val]
  omega
set_option maxHeartbeats 400000 in
theorem refPseudo_any (src dst p n : Int) (w : World) (s1 : 0 ≤ src) (s2 : src ≤ 4294967295) (d1 : 0 ≤ dst) (d2 : dst ≤ 4294967295) :
    Calls Tryd.prog 59 #[.int .u32 src, .int .u32 dst, .int .i64 p, .int .i64 n] w fun e w' => e = .returned (.int .i64 (pseudo src dst p n)) ∧ Below w.heap.size w w' := by
  go_enter Tryd.func59, Tryd.ntmps59
  go_wp2_with (go_at_call 81; refine (word_any _ _).mono ?_; rintro e w' ⟨rfl, rfl⟩)
  refine (refSum_any _ 12 12 (pBytes src dst p n) (by omega) _ ?_).mono ?_
  · have h := Byt.new w (pBytes src dst p n) 5 (0, 0)
    have e : byCells (pBytes src dst p n) = #[.int .u8 (src / 16777216), .int .u8 (src / 65536 % 256), .int .u8 (src / 256 % 256), .int .u8 (src % 256), .int .u8 (dst / 16777216), .int .u8 (dst / 65536 % 256), .int .u8 (dst / 256 % 256), .int .u8 (dst % 256), .int .u8 0, .int .u8 (p % 256), .int .u8 (n % 65536 / 256), .int .u8 (n % 256)] := by
      have e1 : n / 256 % 256 = n % 65536 / 256 := by omega
      have e2 : src / 16777216 % 256 = src / 16777216 := by omega
      have e3 : dst / 16777216 % 256 = dst / 16777216 := by omega
      simp [byCells, pBytes, byOf_val, e1, e2, e3]
    rw [e] at h
    simpa [show (pBytes src dst p n).length = 12 from rfl] using h
  · rintro e w' ⟨rfl, rfl⟩
    rw [csum_pBytes src dst p n s1 s2 d1 d2]
    go_wp2
    go_ret
    exact ⟨rfl, (Below.refl _ _).alloc (Nat.le_refl _) _⟩

end Go.Proofs.YthbfnppgaaeilaaDoor
