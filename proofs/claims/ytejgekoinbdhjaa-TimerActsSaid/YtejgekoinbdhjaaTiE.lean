/- timer: down. -/
import Derived.Test.YtejgekoinbdhjaaTiD
namespace Go.Proofs.Ytejgekoinbdhjaa
set_option linter.unusedVariables false
open Go Go.RowKit Go.Maps

def kidL (H : List Slo) (q kid : Nat) : Nat :=
  match H[kid]?, H[q]? with
  | some x, some y => if lessT x y = true then kid else q
  | _, _ => q
/-- the first of a slot and of its first m kids. -/
def firstM (H : List Slo) (k : Nat) : Nat → Nat
  | 0 => k
  | m + 1 => kidL H (firstM H k m) (2 * k + 1 + m)
theorem kidL_out {H : List Slo} {q kid : Nat} (h : H.length ≤ kid) : kidL H q kid = q := by
  unfold kidL
  rw [List.getElem?_eq_none h]
theorem kidL_in {H : List Slo} {q kid : Nat} {x y : Slo} (hx : H[kid]? = some x) (hy : H[q]? = some y) : kidL H q kid = if lessT x y = true then kid else q := by
  unfold kidL; rw [hx, hy]
theorem kidL_or (H : List Slo) (q kid : Nat) : kidL H q kid = q ∨ (kidL H q kid = kid ∧ kid < H.length) := by
  unfold kidL
  split
  · rename_i x y hx hy
    split
    · exact .inr ⟨rfl, (List.getElem?_eq_some_iff.1 hx).1⟩
    · exact .inl rfl
  · exact .inl rfl
theorem firstM_out {H : List Slo} {k m : Nat} (h : H.length ≤ 2 * k + 1 + m) (hm : m ≤ 2) : firstM H k 2 = firstM H k m := by
  have h2 : m = 0 ∨ m = 1 ∨ m = 2 := by omega
  rcases h2 with rfl | rfl | rfl
  · show kidL H (kidL H k (2 * k + 1 + 0)) (2 * k + 1 + 1) = k
    rw [kidL_out (by omega), kidL_out (by omega)]
  · show kidL H (firstM H k 1) (2 * k + 1 + 1) = _
    rw [kidL_out (by omega)]
  · rfl
theorem firstM_or (H : List Slo) (k : Nat) : ∀ m, firstM H k m = k ∨ (k < firstM H k m ∧ firstM H k m < H.length)
  | 0 => .inl rfl
  | m + 1 => by
    rcases kidL_or H (firstM H k m) (2 * k + 1 + m) with h | ⟨h, h2⟩
    · rw [firstM, h]; exact firstM_or H k m
    · rw [firstM, h]; exact .inr ⟨by omega, h2⟩
/-- a slot goes down. -/
def downL : Nat → List Slo → Nat → List Slo
  | 0, H, _ => H
  | f + 1, H, i => if firstM H i 2 = i then H else downL f (swapL H i (firstM H i 2)) (firstM H i 2)
theorem down_stop {f : Nat} {H : List Slo} {k : Nat} (h : firstM H k 2 = k) : downL f H k = H := by
  cases f with
  | zero => rfl
  | succ f => rw [downL, if_pos h]
theorem down_step {f : Nat} {H : List Slo} {k q : Nat} {x y : Slo} (hx : H[k]? = some x) (hy : H[q]? = some y) (hq : firstM H k 2 = q) (h : q ≠ k) (hf : 0 < f) : ∃ f', f = f' + 1 ∧ downL f H k = downL f' ((H.set k y).set q x) q := by
  cases f with
  | zero => omega
  | succ f =>
    refine ⟨f, rfl, ?_⟩
    rw [downL, hq, if_neg h, swapL_get hx hy]
set_option maxRecDepth 100000 in
set_option maxHeartbeats 4000000 in
theorem down_any (w : World) (g b : Nat) (mo no co : Int) (A H : List Slo) (r cap n : Nat) (h : TabV w g b mo no co (.slice (some ⟨r, 0, none⟩) n cap) A H) (i : Nat) (hlen0 : H.length = n) (hn : n ≤ 1000000) (hi : i ≤ 1000000) :
    Calls Try.prog 178 #[.pointer (some ⟨g, 0, none⟩), .int .i64 (i : Int)] w fun e w' => e = .returned (.tuple #[]) ∧ TabV w' g b mo no co (.slice (some ⟨r, 0, none⟩) n cap) A (downL n H i) ∧ w.grownBy w' (some r) := by
  have hob : (Value.slice (some ⟨r, 0, none⟩) n cap).ownBlock = some r := rfl
  have hng : r ≠ g := fun e => h.ng (by rw [hob, e])
  have hnb : r ≠ b := fun e => h.nb (by rw [hob, e])
  clear hob
  have ltr : r < w.heap.size := (h.row.1.lt r rfl).2
  go_enter Try.func178, Try.ntmps178
  go_wp2_with fail
  go_loopw [1] (fun iv wr => ∃ (k f : Nat) (H' : List Slo), iv = .int .i64 (k : Int) ∧ downL f H' k = downL n H i ∧ n ≤ f + k ∧ k ≤ 1000000 ∧ TabV wr g b mo no co (.slice (some ⟨r, 0, none⟩) n cap) A H' ∧ H'.length = n ∧ w.grownBy wr (some r)) (fun iv _ => n - (intOf iv).toNat)
  case atStart => exact ⟨i, n, H, rfl, rfl, by omega, hi, h, hlen0, grown_refl _ _⟩
  case round =>
  obtain ⟨k, f, H', rfl, hup, hkf, hkn, hT, hlen, hg⟩ := hrel
  generalize wr = w0 at *
  replace hup := Lib.hid hup
  replace hlen := Lib.hid hlen
  have kw1 : IntKind.i64.wrap (2 * (k : Int)) = 2 * (k : Int) := IntWalk.i64_in _ (by omega)
  have kw2 : IntKind.i64.wrap (2 * (k : Int) + 1) = 2 * (k : Int) + 1 := IntWalk.i64_in _ (by omega)
  have kw3 : IntKind.i64.wrap (2 * (k : Int) + 2) = 2 * (k : Int) + 2 := IntWalk.i64_in _ (by omega)
  go_wp2_with fail
  go_loopw [4, 5] (fun qv kv wi => ∃ m d : Nat, m ≤ 2 ∧ d = 2 * k + 1 + m ∧ qv = .int .i64 (firstM H' k m : Int) ∧ kv = .int .i64 (d : Int) ∧ TabV wi g b mo no co (.slice (some ⟨r, 0, none⟩) n cap) A H' ∧ w0.grownBy wi (some r)) (fun _ kv _ => (2 * (k : Int) + 3 - intOf kv).toNat)
  case atStart => exact ⟨0, 2 * k + 1, by omega, rfl, rfl, by simp, hT, grown_refl _ _⟩
  case round =>
  obtain ⟨m, d, hm, hd, rfl, rfl, hTi, hgi⟩ := hrel
  have c4 : wr.cell? ⟨g, 4, none⟩ = some (.slice (some ⟨r, 0, none⟩) n cap) := hTi.blk.cellv 4 rfl
  have ltgi := hTi.ltg
  have hfo := firstM_or H' k m
  obtain ⟨q, hq⟩ : ∃ q, q = firstM H' k m := ⟨_, rfl⟩
  rw [← hq] at hfo ⊢
  have hqb : q ≤ 1000000 := by rcases hfo with h | h <;> have := hlen.out <;> omega
  have hqo : q = k ∨ k < q ∧ q < n := by rcases hfo with h | h <;> have := hlen.out <;> omega
  clear hfo
  have kwd : IntKind.i64.wrap ((d : Int) + 1) = (d : Int) + 1 := IntWalk.i64_in _ (by omega)
  by_cases hin : m < 2 ∧ d < n
  · have i1 : (d : Int) ≤ 2 * (k : Int) + 2 := by omega
    have i2 : (d : Int) < n := by omega
    have hqn : q < n := by omega
    have hx := List.getElem?_eq_getElem (show d < H'.length by rw [hlen.out]; exact hin.2)
    have hy := List.getElem?_eq_getElem (show q < H'.length by rw [hlen.out]; exact hqn)
    generalize H'[d]'(by rw [hlen.out]; exact hin.2) = x at hx
    generalize H'[q]'(by rw [hlen.out]; exact hqn) = y at hy
    obtain ⟨lb, hlb⟩ : ∃ lb, lb = lessT x y := ⟨_, rfl⟩
    have hkl : firstM H' k (m + 1) = if lessT x y = true then d else q := by
      rw [firstM, ← hq, ← hd, kidL_in hx hy]
    rw [← hlb] at hkl
    replace hlb := Lib.hid hlb
    replace hkl := Lib.hid hkl
    replace hq := Lib.hid hq
    replace hd := Lib.hid hd
    have hd2 := hd.out
    have hm2 := hin.1
    clear hin
    replace hd2 : d + 1 = 2 * k + 1 + (m + 1) := by omega
    replace hd2 := Lib.hid hd2
    go_wp2_with (go_at_call 174; refine (lessT_any _ g b mo no co _ A H' hTi d q x y hx hy (by rw [hlen.out]; omega)).mono ?_; rintro e w2 ⟨rfl, hb⟩; rw [← hlb.out]; cases lb)
    all_goals (refine ⟨⟨m + 1, d + 1, by omega, hd2.out, ?_, by go_num, hTi.nx hb, grown_trans hgi (grown_of_below hb (Nat.le_refl _) _)⟩, by simp [intOf]; omega⟩; rw [hkl.out]; rfl)
  · have hq2 : firstM H' k 2 = q := by
      by_cases hm2 : m = 2
      · rw [hq, hm2]
      · rw [hq]
        exact firstM_out (by rw [hlen.out]; omega) hm
    replace hq := Lib.hid hq
    by_cases hm2 : m = 2
    · have i1 : decide ((d : Int) ≤ 2 * (k : Int) + 2) = false := by simp; omega
      replace hd := Lib.hid hd
      by_cases hqk : q = k
      · have dq : ((q : Int) == (k : Int)) = true := by simp; omega
        go_wp2_with fail
        try rw [Exit.noGoto_ret]
        refine bodyPost_ret (results_none rfl _ _ _) rfl ?_
        have e := down_stop (f := f) (hq2.trans hqk)
        rw [← hup.out, e]
        exact ⟨rfl, hTi, grown_trans hg hgi⟩
      · have dq : ((q : Int) == (k : Int)) = false := by simp; omega
        have hqn : q < n := by omega
        have hkn2 : k < n := by omega
        have hqi : (q : Int) < n := by omega
        have hki : (k : Int) < n := by omega
        have hx := List.getElem?_eq_getElem (show k < H'.length by rw [hlen.out]; exact hkn2)
        have hy := List.getElem?_eq_getElem (show q < H'.length by rw [hlen.out]; exact hqn)
        generalize H'[k]'(by rw [hlen.out]; exact hkn2) = x at hx
        generalize H'[q]'(by rw [hlen.out]; exact hqn) = y at hy
        obtain ⟨f', hf', hst⟩ := down_step (f := f) hx hy hq2 hqk (by omega)
        replace hst := Lib.hid (hst.symm.trans hup.out)
        have hqf : n ≤ f' + q := by omega
        obtain ⟨x0, x1, x2⟩ := slo_at hTi.row hx hkn2
        obtain ⟨y0, y1, y2⟩ := slo_at hTi.row hy hqn
        obtain ⟨hR3, hg3⟩ := slo_set hTi.row hkn2 y
        obtain ⟨hR4, hg4⟩ := slo_set hR3 hqn x
        have hT4 := hTi.put hR4 (grown_trans hg3 hg4)
        have hg5 := grown_trans (grown_trans hg hgi) (grown_trans hg3 hg4)
        have hfr := slo_free hTi.row
        have ltr2 : r < wr.heap.size := Nat.lt_of_lt_of_le ltr (grown_trans hg hgi).size
        replace hT4 := Lib.hid hT4
        replace hg5 := Lib.hid hg5
        have hqk2 : k < q := by omega
        clear hR3 hg3 hR4 hg4 hT hTi hup hkf hf' hq2 hq hqo
        go_upto_region 7 with (fail)
        go_region
        go_wp2_with fail
        refine ⟨⟨q, f', _, rfl, hst.out, hqf, hqb, hT4.out.nx (Below.refl _ _).drew, by simp [hlen.out], grown_drew hg5.out⟩, by simp [intOf]; omega⟩
    · have i1 : (d : Int) ≤ 2 * (k : Int) + 2 := by omega
      have i2 : decide ((d : Int) < n) = false := by simp; omega
      replace hd := Lib.hid hd
      by_cases hqk : q = k
      · have dq : ((q : Int) == (k : Int)) = true := by simp; omega
        go_wp2_with fail
        try rw [Exit.noGoto_ret]
        refine bodyPost_ret (results_none rfl _ _ _) rfl ?_
        have e := down_stop (f := f) (hq2.trans hqk)
        rw [← hup.out, e]
        exact ⟨rfl, hTi, grown_trans hg hgi⟩
      · have dq : ((q : Int) == (k : Int)) = false := by simp; omega
        have hqn : q < n := by omega
        have hkn2 : k < n := by omega
        have hqi : (q : Int) < n := by omega
        have hki : (k : Int) < n := by omega
        have hx := List.getElem?_eq_getElem (show k < H'.length by rw [hlen.out]; exact hkn2)
        have hy := List.getElem?_eq_getElem (show q < H'.length by rw [hlen.out]; exact hqn)
        generalize H'[k]'(by rw [hlen.out]; exact hkn2) = x at hx
        generalize H'[q]'(by rw [hlen.out]; exact hqn) = y at hy
        obtain ⟨f', hf', hst⟩ := down_step (f := f) hx hy hq2 hqk (by omega)
        replace hst := Lib.hid (hst.symm.trans hup.out)
        have hqf : n ≤ f' + q := by omega
        obtain ⟨x0, x1, x2⟩ := slo_at hTi.row hx hkn2
        obtain ⟨y0, y1, y2⟩ := slo_at hTi.row hy hqn
        obtain ⟨hR3, hg3⟩ := slo_set hTi.row hkn2 y
        obtain ⟨hR4, hg4⟩ := slo_set hR3 hqn x
        have hT4 := hTi.put hR4 (grown_trans hg3 hg4)
        have hg5 := grown_trans (grown_trans hg hgi) (grown_trans hg3 hg4)
        have hfr := slo_free hTi.row
        have ltr2 : r < wr.heap.size := Nat.lt_of_lt_of_le ltr (grown_trans hg hgi).size
        replace hT4 := Lib.hid hT4
        replace hg5 := Lib.hid hg5
        have hqk2 : k < q := by omega
        clear hR3 hg3 hR4 hg4 hT hTi hup hkf hf' hq2 hq hqo
        go_upto_region 7 with (fail)
        go_region
        go_wp2_with fail
        refine ⟨⟨q, f', _, rfl, hst.out, hqf, hqb, hT4.out.nx (Below.refl _ _).drew, by simp [hlen.out], grown_drew hg5.out⟩, by simp [intOf]; omega⟩
end Go.Proofs.Ytejgekoinbdhjaa
