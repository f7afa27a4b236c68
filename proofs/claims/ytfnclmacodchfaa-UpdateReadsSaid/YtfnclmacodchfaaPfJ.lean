/- prefix: rows of prefixes; All. -/
import Derived.Test.YtfnclmacodchfaaPfI
namespace Go.Proofs.Ytfnclmacodchfaa
set_option linter.unusedVariables false
open Go.RowKit

/-- prefixes as elements. -/
def pfK : RK (Int × Int) where
  size := 2
  cel p := [.int .u32 p.1, .int .i64 p.2]
  ok _ _ p := 0 ≤ p.1 ∧ p.1 ≤ 4294967295
  pos := by omega
  len _ := rfl
  one _ u hu := by simp at hu; rcases hu with rfl | rfl <;> rfl
  keep h _ := h
  more h _ := h
def pfZ : Value := .agg #[.int .u32 0, .int .i64 0]
theorem pf_ok : ElemOk Try.prog 22 61 pfK.size 16 pfZ := ⟨Try.underlying22, by kernel_rfl, rfl, pfK.pos⟩
theorem pf_cells {w : World} {S : Nat → Prop} {A : Option Addr} {n : Nat} {ps : List (Int × Int)} {k : Nat} (h : Seen pfK w S A n ps) (hk : k < n) :
    ∃ b off p, A = some ⟨b, off, none⟩ ∧ S b ∧ ps[k]? = some p ∧ 0 ≤ p.1 ∧ p.1 ≤ 4294967295 ∧ w.cell? ⟨b, off + k * 2, none⟩ = some (.int .u32 p.1) ∧ w.cell? ⟨b, off + k * 2 + 1, none⟩ = some (.int .i64 p.2) := by
  have hlt : k < ps.length := by rw [h.1]; exact hk
  have hr := List.getElem?_eq_getElem hlt
  obtain ⟨b, off, e, hb, hc⟩ := h.cell hr
  have hok := h.2.1 _ (List.getElem_mem hlt)
  exact ⟨b, off, _, e, hb, hr, hok.1, hok.2, hc 0 (by decide), hc 1 (by decide)⟩
/-- the bytes of many. -/
def pfAll (ps : List (Int × Int)) : List UInt8 := ps.flatMap fun p => pfB p.1 p.2
theorem pfAll_take (ps : List (Int × Int)) (k : Nat) (p : Int × Int) (h : ps[k]? = some p) : pfAll (ps.take (k + 1)) = pfAll (ps.take k) ++ pfB p.1 p.2 := by
  unfold pfAll
  rw [List.take_add_one, h]; simp
theorem pfAll_len (ps : List (Int × Int)) : (pfAll ps).length ≤ 5 * ps.length := by
  unfold pfAll
  induction ps with
  | nil => simp
  | cons p ps ih =>
    rw [List.flatMap_cons, List.length_append, List.length_cons, pfB_len]
    have := octN_le (clampN p.2) (clampN_le p.2)
    omega
set_option maxRecDepth 100000 in
set_option maxHeartbeats 2000000 in
theorem prefixAll_any (w : World) (A : Option Addr) (n c : Nat) (ps : List (Int × Int)) (h : Seen pfK w (fun b => b < w.heap.size) A n ps) (hn : n ≤ 1000000) :
    Calls Try.prog 69 #[.slice A n c] w fun e w' => ∃ v, e = .returned v ∧ OwnB w' w.heap.size v (pfAll ps).length (pfAll ps) ∧ Below w.heap.size w w' := by
  have hnil := OwnB.nil w w.heap.size
  have hl := Lib.hid h.1
  go_enter Try.func69, Try.ntmps69
  go_wp2_with fail
  go_loopw [3, 5, 8] (fun v _ i wr => ∃ k : Nat, k ≤ n ∧ i = .int .i64 (k : Int) ∧ OwnB wr w.heap.size v (pfAll (ps.take k)).length (pfAll (ps.take k)) ∧ Below w.heap.size w wr) (fun _ _ i _ => n - (intOf i).toNat)
  case atStart => exact ⟨0, Nat.zero_le _, rfl, hnil, Below.refl _ _⟩
  case round =>
  obtain ⟨k, hk, rfl, hown, hB⟩ := hrel
  have hzB := hB.size
  by_cases hlt : k < n
  · have hS := (h.below hB fun _ hb => hb).more (S' := fun b => b < wr.heap.size) fun b hb => Nat.lt_of_lt_of_le hb hzB
    obtain ⟨b, off, p, rfl, hb, hr, p0, p1, c0, c1⟩ := pf_cells hS hlt
    have hbx := (Below.refl wr.heap.size wr).alloc (Nat.le_refl _) (.cells #[.int .u32 p.1, .int .i64 p.2] 61)
    have hki : (k : Int) < n := by omega
    have hj := pfAll_take ps k p hr
    have hjl := pfAll_len (ps.take k)
    have hjl2 : (pfB p.1 p.2).length ≤ 5 := by
      rw [pfB_len]
      have := octN_le (clampN p.2) (clampN_le p.2)
      omega
    rw [List.length_take, Nat.min_eq_left (by have := hl.out; omega)] at hjl
    replace hj := Lib.hid hj
    go_wp2_with fail
    refine (prefixBytes_any _ p.1 p.2 p0 p1).mono ?_
    rintro e w2 ⟨v2, rfl, own2, hb2⟩
    obtain ⟨A2, c2', rfl, _, by2, _⟩ := own2.any
    replace hbx := hbx.trans (hb2.mono hbx.size)
    have hown2 := hown.below hbx
    have hzx := hbx.size
    go_wp2_with (at_builtin; refine wpList_app _ rfl (.tmp 12) (.tmp 14) rfl w.heap.size _ _ _ rfl hown2 _ _ _ _ _ rfl by2 (by omega) (by omega) ?_; intro v3 w3 own3 hg3 hd3; clear hd3; have hb3 := hown2.below_app hg3 (by omega))
    refine ⟨⟨k + 1, by omega, by go_num, ?_, hB.trans ((hbx.mono hzB).trans hb3)⟩, by simp [intOf]; omega⟩
    rw [hj.out, List.length_append]
    exact own3
  · obtain rfl : k = n := by omega
    go_wp2_with fail
    go_ret
    rw [List.take_of_length_le (by have := hl.out; omega)] at hown
    exact ⟨_, rfl, hown, hB⟩
end Go.Proofs.Ytfnclmacodchfaa
