/- timer: the document's Skip. -/
import Derived.Test.YtejgekoinbdhjaaTjC
namespace Go.Proofs.Ytejgekoinbdhjaa
set_option linter.unusedVariables false
open Go Go.RowKit Go.Maps

/-- so many ticks: who expires, who is left. -/
def skN : Nat → Int → List (Int × Int) → List Int × List (Int × Int)
  | 0, _, L => ([], L)
  | k + 1, no, L => ((skN k no L).1 ++ (((skN k no L).2.filter (isR (no + k + 1))).map Prod.fst), (skN k no L).2.filter fun r => !(isR (no + k + 1) r))
theorem split_len (L : List (Int × Int)) (t : Int) : ((L.filter (isR t)).map Prod.fst).length + (L.filter fun r => !(isR t r)).length = L.length := by
  rw [List.length_map]
  induction L with
  | nil => rfl
  | cons a l ih =>
    cases h : isR t a <;> simp [h] <;> omega
theorem skN_len (k : Nat) (no : Int) (L : List (Int × Int)) : (skN k no L).1.length + (skN k no L).2.length = L.length := by
  induction k with
  | zero => simp [skN]
  | succ k ih =>
    have := split_len (skN k no L).2 (no + k + 1)
    simp only [skN, List.length_append]
    omega
theorem skN_sub (k : Nat) (no : Int) (L : List (Int × Int)) : ∀ r ∈ (skN k no L).2, r ∈ L := by
  induction k with
  | zero => exact fun r h => h
  | succ k ih => exact fun r h => ih r (List.mem_filter.1 h).1
theorem skN_ids (k : Nat) (no : Int) (L : List (Int × Int)) (P : Int → Prop) (h : ∀ r ∈ L, P r.1) : ∀ z ∈ (skN k no L).1, P z := by
  induction k with
  | zero => intro z hz; simp [skN] at hz
  | succ k ih =>
    intro z hz
    rcases List.mem_append.1 hz with q | q
    · exact ih z q
    · obtain ⟨r, hr, rfl⟩ := List.mem_map.1 q
      exact h r (skN_sub k no L r (List.mem_filter.1 hr).1)
set_option maxRecDepth 100000 in
set_option maxHeartbeats 8000000 in
theorem refSkip (w : World) (Y : Nat → Prop) (d : Nat) (mo no : Int) (L : List (Int × Int)) (h : RefT w Y d mo no L) (hn : L.length ≤ 100000) (h0 : 0 ≤ no) (hno : no < 1000000000) (hid : ∀ r ∈ L, 0 ≤ r.1 ∧ r.1 < 1000000) (n : Int) (m : Nat) (hm : m = n.toNat) (hmm : m ≤ 2000) :
    Calls Try.prog 146 #[.pointer (some ⟨d, 0, none⟩), .int .i64 n] w fun e w' => ∃ lv Y', e = .returned lv ∧ Rows intK w' w.heap.size w.heap.size 3 lv (skN m no L).1 ∧ RefT w' Y' d mo (no + m) (skN m no L).2 ∧ (∀ k, Y' k → Y k ∨ w.heap.size ≤ k) ∧ (∀ k, lv.ownBlock = some k → ¬ Y' k) ∧ Chg w w' (fun k => k = d) := by
  have hYl := h.lt
  have hYd : Y d := by obtain ⟨v, _, _, _, q, _⟩ := h; exact q d (.inl rfl)
  have ltd := hYl d hYd
  replace hm := Lib.hid hm
  go_enter Try.func146, Try.ntmps146
  go_wp2_with fail
  go_loopw [5, 6] (fun lv i wr => ∃ (k : Nat) (Y' : Nat → Prop), k ≤ m ∧ i = .int .i64 (k : Int) ∧ Rows intK wr w.heap.size w.heap.size 3 lv (skN k no L).1 ∧ RefT wr Y' d mo (no + k) (skN k no L).2 ∧ (∀ k, Y' k → Y k ∨ w.heap.size ≤ k) ∧ (∀ k, lv.ownBlock = some k → ¬ Y' k) ∧ Chg w wr (fun k => k = d)) (fun _ i _ => m - (intOf i).toNat)
  case atStart => exact ⟨0, Y, Nat.zero_le _, rfl, Rows.nil _ _ _ _, by simpa [skN] using h, fun _ q => .inl q, fun k e => (by cases e), Chg.of_below (Below.refl _ _)⟩
  case round =>
  clear h
  obtain ⟨k, Y', hk, rfl, hl, hT, hY1, hY2, hC⟩ := hrel
  have hz := hC.size
  have hlen := skN_len k no L
  by_cases hlt : k < m
  · have c1 : decide ((k : Int) < n) = true := by have := hm.out; simp; omega
    have c2 : decide ((k : Int) < 100000) = true := by simp; omega
    obtain ⟨Lk, hLk⟩ : ∃ Lk, Lk = (skN k no L).2 := ⟨_, rfl⟩
    obtain ⟨lk, hlk⟩ : ∃ lk, lk = (skN k no L).1 := ⟨_, rfl⟩
    have hidk := skN_sub k no L
    rw [← hLk, ← hlk] at hlen
    rw [← hLk] at hT hidk
    rw [← hlk] at hl
    have hst : skN (k + 1) no L = (lk ++ ((Lk.filter (isR (no + k + 1))).map Prod.fst), Lk.filter fun r => !(isR (no + k + 1) r)) := by rw [hLk, hlk]; rfl
    replace hst := Lib.hid hst
    clear hLk hlk
    have hfl := List.length_filter_le (isR (no + k + 1)) Lk
    have hLn : Lk.length ≤ 100000 := by omega
    have hln : lk.length ≤ 100000 := by omega
    have hfm : ((Lk.filter (isR (no + k + 1))).map Prod.fst).length ≤ 100000 := by rw [List.length_map]; have := List.length_filter_le (isR (no + k + 1)) Lk; omega
    obtain ⟨n2, hn2⟩ : ∃ n2, n2 = ((Lk.filter (isR (no + k + 1))).map Prod.fst).length := ⟨_, rfl⟩
    rw [← hn2] at hfm
    replace hn2 := Lib.hid hn2
    have tok := True.intro
    go_upto_region 5 with (fail)
    go_wp2_with (first
      | (go_at_call 145; clear tok; refine (refTick wr Y' d mo (no + k) Lk hT hLn (by omega) (by omega) (fun r hr => hid r (hidk r hr))).mono ?_; rintro e w6 ⟨lv2, Y2, rfl, hl2, hT2, hY3, hY4, hC2⟩; obtain ⟨A2, cc2, e2, -, -, hS2⟩ := hl2.seen (Nat.le_refl _); rw [← hn2.out] at e2 hS2; subst e2; have hl6 := row_chg hl hC2 (fun j e q => by have := (hl.1.lt j e).1; omega); have hz6 := hC2.size)
      | (at_builtin; refine wpList_plain rfl fun _ hK' => ?_; go_loud (refine wp_rowsO int_ok (.tmp 16) (.tmp 18) rfl hl6 rfl rfl hS2 (fun a ha => hl2.2 a ha) (by unfold maxLen; omega) (by omega) (by omega) ?_); intro v7 w7 hl7 hg7 ho7; refine hK' _ _ ?_; clear hK'))
    have hCg : Chg w6 w7 (fun q => u5.ownBlock = some q) := Chg.of_grownO hg7 (fun _ e => e)
    have hT7 := hT2.chg hCg (fun j hj q => (hY3 j hj).elim (hY2 j q) (fun q2 => by have := (hl.1.lt j q).2; omega))
    have hT2l := hT2.lt
    have hC7 := (hC.trans hC2 (fun _ _ q => q)).trans hCg (fun i hi q => by have := (hl.1.lt i q).1; omega)
    refine ⟨⟨k + 1, Y2, by omega, by go_num, by rw [hst.out]; exact hl7, by rw [hst.out, show no + ((k + 1 : Nat) : Int) = no + k + 1 by omega]; exact hT7, fun j hj => ?_, fun j e hj => ?_, hC7⟩, by simp [intOf]; omega⟩
    · rcases hY3 j hj with q | q
      · exact hY1 j q
      · exact .inr (by omega)
    · rcases ho7 with q | q
      · rw [q] at e
        exact (hY3 j hj).elim (hY2 j e) (fun q2 => by have := (hl.1.lt j e).2; omega)
      · rw [q] at e
        injection e with e
        have := hT2l j hj
        omega
  · have c1 : decide ((k : Int) < n) = false := by have := hm.out; simp; omega
    obtain rfl : k = m := by omega
    go_wp2_with fail
    go_ret
    exact ⟨_, Y', rfl, hl, hT, hY1, hY2, hC⟩
end Go.Proofs.Ytejgekoinbdhjaa
