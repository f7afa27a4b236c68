/- wire: put and the document's Put, Clone. -/
import Derived.Test.YtlkammmadchjnaaWirB
import Derived.Lib.LazyBuf
namespace Go.Proofs.Ytlkammmadchjnaa
set_option linter.unusedVariables false
open Go.RowKit

/-- a number's lowest bytes. -/
def be (x : Int) : Nat → List UInt8
  | 0 => []
  | k + 1 => byOf (x / 2 ^ (8 * k)) :: be x k
theorem be_len (x : Int) (k : Nat) : (be x k).length = k := by
  induction k with
  | zero => rfl
  | succ k ih => simp [be, ih]
theorem be_take (x : Int) (size k : Nat) (h : k < size) : (be x size).take k ++ [byOf (x / 2 ^ (8 * (size - 1 - k)))] = (be x size).take (k + 1) := by
  induction size generalizing k with
  | zero => omega
  | succ s ih =>
    cases k with
    | zero => simp [be]
    | succ k =>
      have := ih k (by omega)
      simp only [be, List.take_succ_cons, List.cons_append]
      rw [show s + 1 - 1 - (k + 1) = s - 1 - k from by omega, this]
theorem one_byte (w : World) (z : Int) : Byt (w.alloc (.cells #[.int .u8 (z % 256)] 5)) (w.heap.size + 1) (some ⟨w.heap.size, 0, none⟩) 1 [byOf z] := by
  have h := Byt.new w [byOf z] 5 (0, 0)
  rw [show byCells [byOf z] = #[.int .u8 (z % 256)] from by simp [byCells, byOf_val]] at h
  exact h

/-- make([]byte, n, c). -/
theorem run_mk (n c : Nat) (h : n ≤ c) (hc : c ≤ 140737488355328) (w : World) :
    (Instr.makeSlice 23 (.int .i64 (n : Int)) (.int .i64 (c : Int))).run Try.prog w = .ok (.slice (some ⟨w.heap.size, 0, none⟩) n c) (w.alloc (.cells (madeCells #[.int .u8 0] c) 5)) := by
  obtain ⟨i, hi, hz, hs, hb⟩ := info_parts info_u8
  have := run_make w 23 5 i _ Try.underlying23 hi hz .i64 .i64 (n : Int) (c : Int) (by omega) (by omega) (by rw [hb]; omega) (by omega)
  simpa [hs, Value.cells] using this

set_option maxHeartbeats 800000 in
theorem put_any (w : World) (A : Option Addr) (n c : Nat) (l : List UInt8) (B : Nat) (h : Byt w B A n l) (hB : B ≤ w.heap.size) (hn : n ≤ 100000000) (x : Int) (hx : 0 ≤ x) (size : Nat) (h4 : size ≤ 4) :
    Calls Try.prog 46 #[.slice A n c, .int .u64 x, .int .i64 (size : Int)] w fun e w' => ∃ v, e = .returned v ∧ OwnB w' w.heap.size v (n + size) (l ++ be x size) ∧ Below w.heap.size w w' := by
  have hmk := run_mk n (n + size) (by omega) (by omega)
  rw [Int.natCast_add] at hmk
  have hcs : (bvs l).length = n := by rw [bvs_len, h.1]
  obtain ⟨cur, hcur⟩ : ∃ cur, cur = (madeCells #[.int .u8 0] (n + size)).toList := ⟨_, rfl⟩
  have hg0 : (w.alloc (.cells (madeCells #[.int .u8 0] (n + size)) 5)).heap[w.heap.size]? = some (.cells cur.toArray 5) := by
    rw [World.alloc_heap_new, hcur]
  have hpos : 0 < (bvs l).length → some (⟨w.heap.size, 0, none⟩ : Addr) = some ⟨w.heap.size, 0, none⟩ ∧ ∃ ad, A = some ad ∧ ∀ j v, (bvs l)[j]? = some v → (w.alloc (.cells (madeCells #[.int .u8 0] (n + size)) 5)).cell? (ad.add j) = some v := by
    intro hp
    obtain ⟨b, off, e, hb, hc⟩ := h.2 (by omega)
    refine ⟨rfl, _, e, fun j v hj => ?_⟩
    have hjl : j < l.length := by have := (List.getElem?_eq_some_iff.1 hj).1; rwa [bvs_len] at this
    rw [bvs_get l j hjl] at hj
    rw [Go.WideShapes.add_plain, ← hj, World.cell?_alloc_lt w _ _ (by simp; omega)]
    exact hc j (by rw [← h.1]; exact hjl)
  have hmin : (bvs l).length = Nat.min n n := by rw [hcs]; exact (Nat.min_self n).symm
  have hbe := (Below.refl w.heap.size w).alloc (Nat.le_refl _) (.cells (madeCells #[.int .u8 0] (n + size)) 5)
  have hcl : cur.length = n + size := by rw [hcur]; simp [size_madeCells]
  have hfit : 0 + (bvs l).length ≤ cur.length := by rw [hcs, hcl]; omega
  go_enter Try.func46, Try.ntmps46
  go_wp2_with (refine wpList_copy_splice rfl (.tmp 16) (.tmp 17) _ _ rfl 5 Try.underlying23 (by kernel_rfl) (some ⟨w.heap.size, 0, none⟩) A n (n + size) n c rfl rfl w.heap.size 0 cur 5 hg0 (bvs l) hmin hpos hfit (bvs_one l) w.heap.size w hbe (Nat.le_refl _) ?_; intro w2 HG2 hB2)
  have hown2 : OwnB w2 w.heap.size (.slice (some ⟨w.heap.size, 0, none⟩) n (n + size)) n l := by
    refine ⟨by rw [bvs_len, h.1]; omega, .inr ⟨w.heap.size, n + size, _, rfl, Nat.le_refl _, HG2.out, by omega, by unfold maxLen; omega, ?_, ?_⟩⟩
    · have := length_splice cur 0 (bvs l) (by omega)
      simp only [List.size_toArray, this]; omega
    · simp [splice, ← hcs]
  clear hg0 hpos hmk
  go_loopw [7, 8] (fun u i wr => ∃ (k : Nat) (v : Value), k ≤ size ∧ u = v ∧ i = .int .i64 ((size : Int) - 1 - k) ∧ OwnB wr w.heap.size v (n + k) (l ++ (be x size).take k) ∧ Below w.heap.size w wr) (fun _ i _ => (intOf i + 1).toNat)
  case atStart => exact ⟨0, _, Nat.zero_le _, rfl, by simp, by simpa using hown2, hB2⟩
  case round =>
    obtain ⟨k, v, hk, rfl, rfl, hown, hbw⟩ := hrel
    have hbs := hbw.size
    by_cases hlt : k < size
    · have hbt := be_take x size k hlt
      have hX := one_byte wr (x / 2 ^ (8 * (size - 1 - k)))
      go_wp2_with (at_builtin; refine wpList_app _ rfl (.tmp 25) (.tmp 31) rfl w.heap.size _ (n + k) _ rfl (hown.alloc _) _ _ 1 1 _ rfl hX (by omega) (by simp; omega) ?_; intro v1 w1 hown1 hg1 hd1; have hb1 : Below w.heap.size w w1 := (hbw.alloc hbs _).trans (OwnB.below_app (hown.alloc _) hg1 (by simp; omega)))
      refine ⟨⟨k + 1, _, by omega, rfl, by congr 1; omega, ?_, hb1⟩, by simp [intOf]; omega⟩
      rw [← hbt, ← List.append_assoc]
      exact hown1
    · obtain rfl : k = size := by omega
      rw [show ((k : Int) - 1 - (k : Int)) = -1 from by omega]
      go_wp2_with fail
      go_ret
      rw [List.take_of_length_le (Nat.le_of_eq (be_len x k))] at hown
      exact ⟨_, rfl, hown, hbw⟩

set_option maxHeartbeats 800000 in
theorem refPut_any (w : World) (A : Option Addr) (n c : Nat) (l : List UInt8) (B : Nat) (h : Byt w B A n l) (hB : B ≤ w.heap.size) (hn : n ≤ 100000000) (x : Int) (hx : 0 ≤ x) (size : Nat) (h4 : size ≤ 4) :
    Calls Try.prog 49 #[.slice A n c, .int .u64 x, .int .i64 (size : Int)] w fun e w' => ∃ v, e = .returned v ∧ OwnB w' w.heap.size v (n + size) (l ++ be x size) ∧ Below w.heap.size w w' := by
  have hown0 := OwnB.lit (base := w.heap.size) w [] (Nat.le_refl _) (by simp)
  have hI := h.alloc hB (.cells #[] 5)
  go_enter Try.func49, Try.ntmps49
  go_wp2_with (at_builtin; refine wpList_app _ rfl (.tmp 9) (.tmp 10) rfl w.heap.size _ 0 [] rfl hown0 B A n c l rfl hI (by omega) (by simp) ?_; intro v2 w2 hown2 hg2 _; have hB2 : Below w.heap.size w w2 := ((Below.refl _ _).alloc (Nat.le_refl _) _).trans (hown0.below_app hg2 (by simp)); rw [Nat.zero_add, List.nil_append] at hown2)
  go_loopw [7, 8] (fun u i wr => ∃ (k : Nat) (v : Value), k ≤ size ∧ u = v ∧ i = .int .i64 ((size : Int) - 1 - k) ∧ OwnB wr w.heap.size v (n + k) (l ++ (be x size).take k) ∧ Below w.heap.size w wr) (fun _ i _ => (intOf i + 1).toNat)
  case atStart => exact ⟨0, _, Nat.zero_le _, rfl, by simp, by simpa using hown2, hB2⟩
  case round =>
    obtain ⟨k, v, hk, rfl, rfl, hown, hbw⟩ := hrel
    have hbs := hbw.size
    by_cases hlt : k < size
    · have hbt := be_take x size k hlt
      have hX := one_byte wr (x / 2 ^ (8 * (size - 1 - k)))
      go_wp2_with (at_builtin; refine wpList_app _ rfl (.tmp 18) (.tmp 25) rfl w.heap.size _ (n + k) _ rfl (hown.alloc _) _ _ 1 1 _ rfl hX (by omega) (by simp; omega) ?_; intro v1 w1 hown1 hg1 hd1; have hb1 : Below w.heap.size w w1 := (hbw.alloc hbs _).trans (OwnB.below_app (hown.alloc _) hg1 (by simp; omega)))
      refine ⟨⟨k + 1, _, by omega, rfl, by congr 1; omega, ?_, hb1⟩, by simp [intOf]; omega⟩
      rw [← hbt, ← List.append_assoc]
      exact hown1
    · obtain rfl : k = size := by omega
      rw [show ((k : Int) - 1 - (k : Int)) = -1 from by omega]
      go_wp2_with fail
      go_ret
      rw [List.take_of_length_le (Nat.le_of_eq (be_len x k))] at hown
      exact ⟨_, rfl, hown, hbw⟩

set_option maxHeartbeats 400000 in
theorem clone_any (w : World) (A : Option Addr) (n c : Nat) (l : List UInt8) (B : Nat) (h : Byt w B A n l) (hB : B ≤ w.heap.size) (hn : n ≤ 100000000) :
    Calls Try.prog 35 #[.slice A n c] w fun e w' => ∃ v, e = .returned v ∧ OwnB w' w.heap.size v n l ∧ Below w.heap.size w w' := by
  have hown0 := OwnB.lit (base := w.heap.size) w [] (Nat.le_refl _) (by simp)
  have hI := h.alloc hB (.cells #[] 5)
  have heq := fun w => Go.run_eql_slice_nil (P := Try.prog) w 23 5 A n c Try.underlying23
  go_enter Try.func35, Try.ntmps35
  cases A with
  | none =>
    have h0 : n = 0 := by
      rcases Nat.eq_zero_or_pos n with h0 | h0
      · exact h0
      · obtain ⟨_, _, e, _⟩ := h.2 h0; cases e
    subst h0
    obtain rfl : l = [] := List.eq_nil_of_length_eq_zero h.1
    go_wp2_with fail
    go_ret
    exact ⟨_, rfl, OwnB.nil _ _, Below.refl _ _⟩
  | some a =>
    go_wp2_with (at_builtin; refine wpList_app _ rfl (.tmp 5) (.tmp 6) rfl w.heap.size _ 0 [] rfl hown0 B (some a) n c l rfl hI (by omega) (by simp) ?_; intro v2 w2 hown2 hg2 _; have hB2 : Below w.heap.size w w2 := ((Below.refl _ _).alloc (Nat.le_refl _) _).trans (hown0.below_app hg2 (by simp)); rw [Nat.zero_add, List.nil_append] at hown2)
    go_ret
    exact ⟨_, rfl, hown2, hB2⟩

set_option maxHeartbeats 400000 in
theorem put8_any (w : World) (A : Option Addr) (n c : Nat) (l : List UInt8) (B : Nat) (h : Byt w B A n l) (hB : B ≤ w.heap.size) (hn : n ≤ 100000000) (x : Int) :
    Calls Try.prog 22 #[.slice A n c, .int .i64 x] w fun e w' => ∃ v, e = .returned v ∧ OwnB w' w.heap.size v (n + 1) (l ++ be (x % 18446744073709551616) 1) ∧ Below w.heap.size w w' := by
  go_enter Try.func22, Try.ntmps22
  go_wp2_with fail
  refine (put_any w A n c l B h hB hn (x % 18446744073709551616) (by omega) 1 (by omega)).mono ?_
  rintro e w' ⟨v, rfl, h1, h2⟩
  go_wp2_with fail
  go_ret
  exact ⟨_, rfl, h1, h2⟩
set_option maxHeartbeats 400000 in
theorem put16_any (w : World) (A : Option Addr) (n c : Nat) (l : List UInt8) (B : Nat) (h : Byt w B A n l) (hB : B ≤ w.heap.size) (hn : n ≤ 100000000) (x : Int) :
    Calls Try.prog 23 #[.slice A n c, .int .i64 x] w fun e w' => ∃ v, e = .returned v ∧ OwnB w' w.heap.size v (n + 2) (l ++ be (x % 18446744073709551616) 2) ∧ Below w.heap.size w w' := by
  go_enter Try.func23, Try.ntmps23
  go_wp2_with fail
  refine (put_any w A n c l B h hB hn (x % 18446744073709551616) (by omega) 2 (by omega)).mono ?_
  rintro e w' ⟨v, rfl, h1, h2⟩
  go_wp2_with fail
  go_ret
  exact ⟨_, rfl, h1, h2⟩
set_option maxHeartbeats 400000 in
theorem put32_any (w : World) (A : Option Addr) (n c : Nat) (l : List UInt8) (B : Nat) (h : Byt w B A n l) (hB : B ≤ w.heap.size) (hn : n ≤ 100000000) (x : Int) (hx : 0 ≤ x) (hx2 : x ≤ 4294967295) :
    Calls Try.prog 24 #[.slice A n c, .int .u32 x] w fun e w' => ∃ v, e = .returned v ∧ OwnB w' w.heap.size v (n + 4) (l ++ be x 4) ∧ Below w.heap.size w w' := by
  go_enter Try.func24, Try.ntmps24
  go_wp2_with fail
  refine (put_any w A n c l B h hB hn x hx 4 (by omega)).mono ?_
  rintro e w' ⟨v, rfl, h1, h2⟩
  go_wp2_with fail
  go_ret
  exact ⟨_, rfl, h1, h2⟩
end Go.Proofs.Ytlkammmadchjnaa
