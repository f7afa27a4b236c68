/- timer: the document's Armed and Copy. -/
import Derived.Test.YtejgekoinbdhjaaTjD
namespace Go.Proofs.Ytejgekoinbdhjaa
set_option linter.unusedVariables false
open Go Go.RowKit Go.Maps

/-- the ids of which there is one, rising. -/
def armN (L : List (Int × Int)) (k : Nat) : List Int := ((List.range k).filter fun (i : Nat) => (findN L (i : Int)).2).map fun (i : Nat) => (i : Int)
theorem armN_step (L : List (Int × Int)) (k : Nat) : armN L (k + 1) = armN L k ++ (if (findN L (k : Int)).2 then [(k : Int)] else []) := by
  unfold armN
  rw [List.range_succ, List.filter_append, List.map_append]
  cases h : (findN L (k : Int)).2 <;> simp [h]
theorem armN_len (L : List (Int × Int)) (k : Nat) : (armN L k).length ≤ k := by
  unfold armN
  rw [List.length_map]
  exact Nat.le_trans (List.length_filter_le _ _) (by simp)
set_option maxRecDepth 100000 in
set_option maxHeartbeats 8000000 in
theorem refArmed (w : World) (Y : Nat → Prop) (d : Nat) (mo no : Int) (L : List (Int × Int)) (h : RefT w Y d mo no L) (hn : L.length ≤ 100000) (m : Nat) (hmo : mo = m) (hm : m ≤ 1024) :
    Calls Try.prog 149 #[.pointer (some ⟨d, 0, none⟩)] w fun e w' => ∃ lv, e = .returned lv ∧ Rows intK w' w.heap.size w.heap.size 3 lv (armN L m) ∧ Below w.heap.size w w' := by
  subst hmo
  have ltd := h.lt d (by obtain ⟨v, _, _, _, q, _⟩ := h; exact q d (.inl rfl))
  go_enter Try.func149, Try.ntmps149
  go_wp2_with fail
  go_loopw [3, 4] (fun lv i wr => ∃ k : Nat, k ≤ m ∧ i = .int .i64 (k : Int) ∧ Rows intK wr w.heap.size w.heap.size 3 lv (armN L k) ∧ Below w.heap.size w wr) (fun _ i _ => m - (intOf i).toNat)
  case atStart => exact ⟨0, Nat.zero_le _, rfl, (show Rows intK w w.heap.size w.heap.size 3 (.slice none 0 0) [] from Rows.nil _ _ _ _), Below.refl _ _⟩
  case round =>
  obtain ⟨k, hk, rfl, hl, hB⟩ := hrel
  have hz := hB.size
  have hT := h.nx hB
  have c0 : wr.cell? ⟨d, 0, none⟩ = some (.int .i64 (m : Int)) := by obtain ⟨v, q, _⟩ := hT; exact q.cellv 0 rfl
  have ltr : d < wr.heap.size := Nat.lt_of_lt_of_le ltd hz
  by_cases hlt : k < m
  · have c1 : decide ((k : Int) < m) = true := by simp; omega
    have hst := Lib.hid (armN_step L k)
    have hln := armN_len L k
    cases hf : (findN L (k : Int)).2 with
    | false =>
      replace hf := Lib.hid hf
      go_wp2_with (go_at_call 147; refine (refWhen wr Y d m no L hT (by omega) (k : Int)).mono ?_; rintro e w6 ⟨rfl, hB6⟩; rw [hf.out])
      refine ⟨⟨k + 1, by omega, by go_num, ?_, hB.trans (hB6.mono hz)⟩, by simp [intOf]; omega⟩
      rw [hst.out, hf.out]
      simpa using hl.below hB6
    | true =>
      replace hf := Lib.hid hf
      go_upto_region 7 with (go_at_call 147; refine (refWhen wr Y d m no L hT (by omega) (k : Int)).mono ?_; rintro e w6 ⟨rfl, hB6⟩; rw [hf.out])
      have hl6 := hl.below hB6
      have hB7 := hB.trans (hB6.mono hz)
      have hz7 := hB7.size
      clear hl hB hz hT c0 ltr hB6
      have hone : Seen intK (w6.alloc (.cells #[.int .i64 (k : Int)] 3)) (fun _ => True) (some ⟨w6.heap.size, 0, none⟩) 1 [(k : Int)] := seen_one (R := intK) (S := fun _ => False) (S' := fun _ => True) w6 3 (k : Int) #[.int .i64 (k : Int)] rfl (WalkArith.wf_i64 (by omega)) (fun _ h => h.elim) trivial (fun _ h => h.elim)
      have hokl : ∀ e ∈ [(k : Int)], intK.ok (w6.alloc (.cells #[.int .i64 (k : Int)] 3)) (fun b => w.heap.size ≤ b ∧ b < (w6.alloc (.cells #[.int .i64 (k : Int)] 3)).heap.size ∧ u3.ownBlock ≠ some b) e := fun e he => by
        rw [List.mem_singleton] at he
        subst he
        exact WalkArith.wf_i64 (by omega)
      have hl5 := hl6.alloc (.cells #[.int .i64 (k : Int)] 3)
      have hB5 := hB7.alloc hz7 (.cells #[.int .i64 (k : Int)] 3)
      have hz5 := hB5.size
      go_wp2_with (at_builtin; refine wpList_rows int_ok rfl (.tmp 22) (.tmp 24) rfl hl5 rfl rfl hone hokl (by unfold maxLen; omega) (by omega) hz5 ?_; intro v8 w8 hl8 hg8)
      refine ⟨⟨k + 1, by omega, by go_num, ?_, hB5.trans (hl5.below_app hg8 hz5)⟩, by simp [intOf]; omega⟩
      rw [hst.out, hf.out]
      exact hl8
  · have c1 : decide ((k : Int) < m) = false := by simp; omega
    obtain rfl : k = m := by omega
    go_wp2_with fail
    go_ret
    exact ⟨_, rfl, hl, hB⟩
end Go.Proofs.Ytejgekoinbdhjaa
