/- chk.Sum: what it computes. -/
import Derived.Test.YtlkammmadchjnaaChkA
import Derived.Test.YtlkammmadchjnaaChkW
namespace Go.Proofs.Ytlkammmadchjnaa
set_option linter.unusedVariables false
open Go.RowKit Go.Shelf

/-- the sum of the first k words. -/
def wsum (l : List UInt8) : Nat → Int
  | 0 => 0
  | k + 1 => wsum l k + wordAt l k
theorem wordAt_lo (l : List UInt8) (k : Nat) : 0 ≤ wordAt l k := by
  have := byAt_lo l (2 * k); have := byAt_lo l (2 * k + 1); unfold wordAt; omega
theorem wordAt_hi (l : List UInt8) (k : Nat) : wordAt l k ≤ 65535 := by
  have := byAt_hi l (2 * k); have := byAt_hi l (2 * k + 1); unfold wordAt; omega
theorem wsum_lo (l : List UInt8) (k : Nat) : 0 ≤ wsum l k := by
  induction k with
  | zero => exact Int.le_refl _
  | succ k ih => have := wordAt_lo l k; unfold wsum; omega
theorem wsum_hi (l : List UInt8) (k : Nat) : wsum l k ≤ 65535 * k := by
  induction k with
  | zero => exact Int.le_refl _
  | succ k ih => have := wordAt_hi l k; unfold wsum; omega

def sumW : List Int → Int := List.foldl (fun s v => wrap64 (s + v)) 0
theorem sumW_snoc (pre : List Int) (x : Int) : sumW (pre ++ [x]) = wrap64 (sumW pre + x) := by simp [sumW]
theorem sumW_upto (l : List UInt8) (k : Nat) (hk : k ≤ 140737488351232) : sumW (upto (wordAt l) k) = wsum l k := by
  induction k with
  | zero => rfl
  | succ k ih =>
    rw [upto_succ, sumW_snoc, ih (by omega)]
    have h1 := wsum_lo l (k + 1); have h2 := wsum_hi l (k + 1)
    have e : wsum l (k + 1) = wsum l k + wordAt l k := rfl
    rw [e] at h1 h2
    rw [e]
    exact IntWalk.wrap64_in _ ⟨by omega, by omega⟩

/-- the check sum of bytes. -/
def csum (l : List UInt8) : Int := foldV (wsum l ((l.length + 1) / 2))

attribute [local go_sem] Oper.semAt_some
set_option maxRecDepth 100000 in
set_option maxHeartbeats 1000000 in
theorem sum_in (n : Nat) (hn : 3 ≤ n) (A : Option Addr) (len cap : Nat) (zs : List UInt8) (hlen : len ≤ 140737488351232) (w : World) (hI : Byt w w.heap.size A len zs) :
    CallsIn Fence.wide n Try.prog 59 #[.slice A len cap] w fun e W' => e = .returned (.int .i64 (csum zs)) ∧ Below w.heap.size w W' := by
  have h1 : 1 ≤ n := by omega
  have hro : Fence.wide.round = none := rfl
  have hfn : ∀ f, Fence.wide.fn f := fun _ => trivial
  refine callsIn_of_wp_marks Try.func59 rfl (hfn _) ?_ hro
  simp only [Try.ntmps59, List.size_toArray, List.length_cons, List.length_nil, Nat.reduceAdd, Nat.reduceSub, Array.replicate_succ, Array.replicate_zero, List.push_toArray, List.append_toArray, List.nil_append, List.cons_append]
  gi_wp2_with (gi_at_call 66; refine (words1_out Fence.wide (n - 1) (hfn _) hro _ _ _ _).mono ?_; rintro e w' ⟨rfl, rfl⟩)
  have bS := Boxed.new w 3 (.int .i64 0)
  have bN := Boxed.new (w.alloc (.cells #[.int .i64 0] 3)) 23 (.slice A len cap)
  rw [World.size_alloc] at bN
  have hB0 : Below w.heap.size w ((w.alloc (.cells #[.int .i64 0] 3)).alloc (.cells #[.slice A len cap] 23)) := ((Below.refl _ w).alloc (Nat.le_refl _) _).alloc (by simp) _
  refine wpIn_rangeFunc_ownG hro h1 (gf := 68) (lb := #[.pointer (some ⟨w.heap.size + 1, 0, none⟩)]) rfl (hfn _) (enters_of Try.func68 (by kernel_rfl) rfl)
    (words_stops Fence.wide (n - 1) (hfn _) hro (by omega) (w.heap.size + 1) w.heap.size len cap A zs hlen _ (by simp) (by simp; omega) bN.cell (hI.below hB0)) KeepB.trans (keepB_b (by simp; omega) (by simp)) (Below.refl _ _) (fun _ => rfl)
    (fun pre W => (W.cell? ⟨w.heap.size, 0, none⟩ = some (.int .i64 (sumW pre)) ∧ W.frozen? ⟨w.heap.size, 0, none⟩ = false) ∧ Below w.heap.size w W)
    (fun _ _ _ => False)
    (OwnFrom.and (Own.from (fun s A B row hs hg hr => ⟨cell_kept hs.1 hg hr, (frozen_kept hs.1 hg hr).trans hs.2⟩) _) (ownFrom_below (Nat.le_refl _) (by simp; omega)))
    (fun _ _ _ _ _ hs _ _ => hs)
    ⟨⟨(bS.alloc _).cell, (bS.alloc _).frozen⟩, hB0⟩
    (fun x => { tmps := #[.slice A len cap, undef, .int .i64 0, .pointer (some ⟨w.heap.size, 0, none⟩), .int .i64 x, .slice A len cap, .func (.func 68) #[] #[.pointer (some ⟨w.heap.size + 1, 0, none⟩)], .int .i64 x, undef, undef, undef, undef, undef], defers := [] }) ?assign ?body ?done ?stop
  case assign =>
    intro l x W K hK
    gi_wp2
    exact hK
  case body =>
    rintro l pre x W ⟨⟨hc, hf⟩, hB⟩ _
    gi_wp2
    exact ⟨(KeepsOthers.setCell _ _ _).from _, ⟨(Below.refl w.heap.size W).setCell (p := ⟨w.heap.size, 0, none⟩) (Nat.le_refl _) _, Below.heap_setCell _ _ _ _ (by simp)⟩, ⟨by rw [sumW_snoc]; exact World.cell?_setCell_same' _ _ _ (by rw [hc]; rfl), by rw [World.frozen?_setCell]; exact hf⟩, hB.setCell (p := ⟨w.heap.size, 0, none⟩) (Nat.le_refl _) _⟩
  case done =>
    rintro D ys W hD rfl ⟨⟨hc, _⟩, hB⟩ hK
    rw [sumW_upto zs _ (by omega)] at hc
    have b1 := wsum_lo zs ((len + 1) / 2)
    have b2 := wsum_hi zs ((len + 1) / 2)
    gi_wp2_with (gi_at_call 67; refine (callsIn_wide.2 (fold_any _ _ (by omega))).mono ?_; rintro e w' ⟨rfl, rfl⟩)
    refine ⟨by simp, .inl ⟨_, _, rfl, run_takeDeferred hK, ?_⟩⟩
    refine ⟨_, results_tmp rfl _ _ _, ?_, hB.trans (belowK_b (w := w) (Nat.le_refl _) W D _ _ (by simp at hD; omega) hK rfl rfl)⟩
    have E : foldV (wsum zs ((len + 1) / 2)) = csum zs := by unfold csum; rw [hI.1]
    exact ret_int E
  case stop =>
    rintro D c pre W _ _ h _
    exact h.elim

theorem sum_any (A : Option Addr) (len cap : Nat) (zs : List UInt8) (hlen : len ≤ 140737488351232) (w : World) (hI : Byt w w.heap.size A len zs) :
    Calls Try.prog 59 #[.slice A len cap] w fun e W' => e = .returned (.int .i64 (csum zs)) ∧ Below w.heap.size w W' :=
  callsIn_wide.1 (sum_in 3 (by omega) A len cap zs hlen w hI)

end Go.Proofs.Ytlkammmadchjnaa
