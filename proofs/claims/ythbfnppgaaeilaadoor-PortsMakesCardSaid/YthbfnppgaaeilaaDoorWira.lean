/- wire: get, put and the document's. wire: Get16, Get32, the document's Get, put and the document's Put. wire: put and the document's Put, Clone. -/
import Derived.Test.YthbfnppgaaeilaaDoorRows
import Derived.Test.YthbfnppgaaeilaaDoorLib
import Derived.Laws.BytesArg
import Derived.Laws.CopyOwn
import Derived.BigGuardPart
import Derived.Lib.Hide
import Derived.Deep.OwnRows
import Derived.Lib.LazyBuf
namespace Go.Proofs.YthbfnppgaaeilaaDoor
set_option linter.unusedVariables false
open Go.RowKit

theorem shl8_or64 (x y : Int) (hx : 0 ≤ x) (hx2 : x ≤ 16777215) (hy : 0 ≤ y) (hy2 : y ≤ 255) : bits .or .u64 (x * 256) y = x * 256 + y := by
  obtain ⟨a, rfl⟩ := Int.eq_ofNat_of_zero_le hx
  obtain ⟨b, rfl⟩ := Int.eq_ofNat_of_zero_le hy
  show IntKind.u64.wrap ((BitVec.ofInt 64 ((a : Int) * 256) ||| BitVec.ofInt 64 (b : Int)).toNat : Int) = _
  have ha : (BitVec.ofInt 64 ((a : Int) * 256)).toNat = a * 256 := by rw [BitVec.toNat_ofInt]; omega
  have hb : (BitVec.ofInt 64 (b : Int)).toNat = b := by rw [BitVec.toNat_ofInt]; omega
  rw [BitVec.toNat_or, ha, hb, IntKind.wrap_u64]
  have h2 : a * 256 ||| b = a * 256 + b := by
    have := Nat.two_pow_add_eq_or_of_lt (i := 8) (b := b) (by omega) a
    rw [Nat.mul_comm] at this
    exact this.symm
  rw [h2]; omega

/-- the number that bytes are. -/
def getN (l : List UInt8) : Nat → Int
  | 0 => 0
  | k + 1 => getN l k * 256 + byAt l k
theorem getN_lo (l : List UInt8) (k : Nat) : 0 ≤ getN l k := by
  induction k with
  | zero => exact Int.le_refl _
  | succ k ih => have := byAt_lo l k; unfold getN; omega
theorem getN_3 (l : List UInt8) (k : Nat) (h : k ≤ 3) : getN l k ≤ 16777215 := by
  have h0 := byAt_hi l 0; have h1 := byAt_hi l 1; have h2 := byAt_hi l 2
  match k, h with
  | 0, _ => simp [getN]
  | 1, _ => simp [getN]; omega
  | 2, _ => simp [getN]; omega
  | 3, _ => simp [getN]; omega
theorem getN_4 (l : List UInt8) (k : Nat) (h : k ≤ 4) : getN l k ≤ 4294967295 := by
  match k, h with
  | 0, _ => simp [getN]
  | k + 1, h => have := getN_3 l k (by omega); have := byAt_hi l k; unfold getN; omega
theorem getN_2 (l : List UInt8) (k : Nat) (h : k ≤ 2) : getN l k ≤ 65535 := by
  have h0 := byAt_hi l 0; have h1 := byAt_hi l 1
  match k, h with
  | 0, _ => simp [getN]
  | 1, _ => simp [getN]; omega
  | 2, _ => simp [getN]; omega

set_option maxHeartbeats 400000 in
theorem get_any (w : World) (A : Option Addr) (n c : Nat) (l : List UInt8) (B : Nat) (h : Byt w B A n l) (hc : n ≤ c) (hc2 : c ≤ maxLen) (size : Nat) (h1 : 0 < size) (h4 : size ≤ 4) (hs : size ≤ n) :
    Calls Tryd.prog 94 #[.slice A n c, .int .i64 (size : Int)] w fun e w' => e = .returned (.int .u64 (getN l size)) ∧ w = w' := by
  obtain ⟨b, off, rfl, hb, hcell⟩ := h.2 (by omega)
  have hsl := slice_hi b off n c size (by omega)
  unfold maxLen at hc2
  go_enter Tryd.func94, Tryd.ntmps94
  go_wp2_with fail
  go_loop [5, 12] (fun u v => ∃ k : Nat, k ≤ size ∧ u = .int .u64 (getN l k) ∧ v = .int .i64 (k : Int)) (fun _ v => size - (intOf v).toNat)
  case atStart => exact ⟨0, by omega, rfl, rfl⟩
  case round =>
    obtain ⟨k, hk, rfl, rfl⟩ := hrel
    by_cases hlt : k < size
    · have hce := hcell k (by omega)
      have g1 := getN_lo l k
      have g2 := getN_3 l k (by omega)
      have b1 := byAt_lo l k
      have b2 := byAt_hi l k
      have hor := shl8_or64 (getN l k) (byAt l k) g1 g2 b1 b2
      go_wp2_with fail
      go_round
      case rel => exact ⟨k + 1, by omega, by simp [getN], by go_num⟩
      case measure => simp [intOf]; omega
    · obtain rfl : k = size := by omega
      go_wp2_with fail
      go_ret
      exact ⟨rfl, rfl⟩

end Go.Proofs.YthbfnppgaaeilaaDoor

namespace Go.Proofs.YthbfnppgaaeilaaDoor
set_option linter.unusedVariables false
open Go.RowKit

/-- are there so many bytes at a place? -/
def fitsB (n : Nat) (at_ : Int) (size : Nat) : Bool := decide (0 ≤ at_) && decide (at_ ≤ (n : Int) - size)
theorem fitsB_iff (n : Nat) (at_ : Int) (size : Nat) : fitsB n at_ size = true ↔ 0 ≤ at_ ∧ at_ ≤ (n : Int) - size := by simp [fitsB]

set_option maxHeartbeats 400000 in
theorem fits_any (w : World) (A : Option Addr) (n c : Nat) (at_ : Int) (size : Nat) (h4 : size ≤ 4) (hn : n ≤ 140737488355328) :
    Calls Tryd.prog 93 #[.slice A n c, .int .i64 at_, .int .i64 (size : Int)] w fun e w' => e = .returned (.bool (fitsB n at_ size)) ∧ w = w' := by
  go_enter Tryd.func93, Tryd.ntmps93
  go_wp2_with fail
  all_goals go_ret
  all_goals (refine ⟨ret_bool ?_, rfl⟩; simp only [fitsB]; simp; try omega)

/-- bytes from a place on. -/
def fromI (l : List UInt8) (at_ : Int) : List UInt8 := l.drop at_.toNat
/-- the number at a place. -/
def getV (l : List UInt8) (at_ : Int) (size : Nat) : Int := if fitsB l.length at_ size then getN (fromI l at_) size else 0
theorem getV_lo (l : List UInt8) (at_ : Int) (size : Nat) : 0 ≤ getV l at_ size := by
  unfold getV; split
  · exact getN_lo _ _
  · exact Int.le_refl _
theorem getV_4 (l : List UInt8) (at_ : Int) (size : Nat) (h : size ≤ 4) : getV l at_ size ≤ 4294967295 := by
  unfold getV; split
  · exact getN_4 _ _ h
  · decide

set_option maxHeartbeats 400000 in
theorem get16_any (w : World) (A : Option Addr) (n c : Nat) (l : List UInt8) (B : Nat) (h : Byt w B A n l) (hc : n ≤ c) (hc2 : c ≤ maxLen) (at_ : Int) (hn : n ≤ 140737488355328) :
    Calls Tryd.prog 72 #[.slice A n c, .int .i64 at_] w fun e w' => e = .returned (.tuple #[.int .i64 (getV l at_ 2), .bool (fitsB n at_ 2)]) ∧ w = w' := by
  have hlen := h.1
  go_enter Tryd.func72, Tryd.ntmps72
  go_wp2_with fail
  refine (fits_any w A n c at_ 2 (by omega) hn).mono ?_
  rintro e w' ⟨rfl, rfl⟩
  cases hf : fitsB n at_ 2 with
  | false =>
    go_wp2_with fail
    go_ret2
    exact ⟨by simp [getV, hlen, hf], rfl⟩
  | true =>
    have hf' := (fitsB_iff _ _ _).1 hf
    obtain ⟨k, rfl⟩ := Int.eq_ofNat_of_zero_le hf'.1
    obtain ⟨b, off, rfl, hb, hcell⟩ := h.2 (by omega)
    have hsl := slice_lo b off n c k (by omega) (by omega)
    go_wp2_with fail
    refine (get_any w _ _ _ _ B (h.drop (m := k) (by omega)) (by omega) (by omega) 2 (by omega) (by omega) (by omega)).mono ?_
    rintro e w' ⟨rfl, rfl⟩
    have g1 := getN_lo (l.drop k) 2
    have g2 := getN_2 (l.drop k) 2 (by omega)
    go_wp2_with fail
    go_ret2
    exact ⟨by simp [getV, hlen, hf, fromI], rfl⟩

def strB (l : List UInt8) : ByteArray := ⟨l.toArray⟩
theorem strOfNums_l (l : List UInt8) : strOfNums (l.map fun c => (c.toNat : Int)) = strB l := by
  simp only [strOfNums, strB, List.map_map]
  rw [show ((fun n : Int => UInt8.ofNat n.toNat) ∘ fun c : UInt8 => (c.toNat : Int)) = id from funext fun c => by simp, List.map_id]
/-- string(x). -/
theorem run_str (w : World) {B n : Nat} {A : Option Addr} {l : List UInt8} (h : Byt w B A n l) (c : Nat) : (convert 43 9 (.slice A n c)).run Tryd.prog w = .ok (.string (strB l)) w := by
  rcases Nat.eq_zero_or_pos n with h0 | h0
  · subst h0
    obtain rfl : l = [] := List.eq_nil_of_length_eq_zero h.1
    cases A with
    | none => exact run_convert_bytes_nil w 43 5 Tryd.underlying43 Tryd.underlying5 0 c 9 Tryd.underlying9
    | some a =>
      rw [run_convert_bytes_string w 43 9 5 _ 0 c Tryd.underlying43 Tryd.underlying5 Tryd.underlying9]
      rw [run_bytesToString w a 0 c [] (run_loadCells_list w a [] (fun j v hj => by simp at hj))]
      rfl
  · obtain ⟨b, off, rfl, _, hc⟩ := h.2 h0
    have := run_convert_bytes_arg (P := Tryd.prog) w 43 5 Tryd.underlying43 Tryd.underlying5 b off n c (l.map fun c => (c.toNat : Int)) (by simp [h.1])
      (fun i hi => by
        rw [hc i hi]
        have hl : i < l.length := by rw [h.1]; exact hi
        simp [byAt, List.getD, List.getElem?_eq_getElem hl]) 9 Tryd.underlying9
    rw [this, strOfNums_l]

end Go.Proofs.YthbfnppgaaeilaaDoor

namespace Go.Proofs.YthbfnppgaaeilaaDoor
set_option linter.unusedVariables false
open Go.RowKit

/-- a number's lowest bytes. -/
def be (x : Int) : Nat → List UInt8
  | 0 => []
  | k + 1 => byOf (x / 2 ^ (8 * k)) :: be x k
theorem be_len (x : Int) (k : Nat) : (be x k).length = k := by
  induction k with
  | zero => rfl
  | succ k ih => simp [be, ih]
theorem be_take (x : Int) (size k : Nat) (h : k < size) : (be x size).take k ++ [byOf (x / 2 ^ (8 * (size - 1 - k)))] = (be x size).take (k + 1) := by
  induction size generalizing k with
  | zero => omega
  | succ s ih =>
    cases k with
    | zero => simp [be]
    | succ k =>
      have := ih k (by omega)
      simp only [be, List.take_succ_cons, List.cons_append]
      rw [show s + 1 - 1 - (k + 1) = s - 1 - k from by omega, this]
theorem one_byte (w : World) (z : Int) : Byt (w.alloc (.cells #[.int .u8 (z % 256)] 5)) (w.heap.size + 1) (some ⟨w.heap.size, 0, none⟩) 1 [byOf z] := by
  have h := Byt.new w [byOf z] 5 (0, 0)
  rw [show byCells [byOf z] = #[.int .u8 (z % 256)] from by simp [byCells, byOf_val]] at h
  exact h

/-- make([]byte, n, c). -/
theorem run_mk (n c : Nat) (h : n ≤ c) (hc : c ≤ 140737488355328) (w : World) :
    (Instr.makeSlice 43 (.int .i64 (n : Int)) (.int .i64 (c : Int))).run Tryd.prog w = .ok (.slice (some ⟨w.heap.size, 0, none⟩) n c) (w.alloc (.cells (madeCells #[.int .u8 0] c) 5)) := by
  obtain ⟨i, hi, hz, hs, hb⟩ := info_parts info_u8
  have := run_make w 43 5 i _ Tryd.underlying43 hi hz .i64 .i64 (n : Int) (c : Int) (by omega) (by omega) (by rw [hb]; omega) (by omega)
  simpa [hs, Value.cells] using this

set_option maxHeartbeats 800000 in
theorem put_any (w : World) (A : Option Addr) (n c : Nat) (l : List UInt8) (B : Nat) (h : Byt w B A n l) (hB : B ≤ w.heap.size) (hn : n ≤ 100000000) (x : Int) (hx : 0 ≤ x) (size : Nat) (h4 : size ≤ 4) :
    Calls Tryd.prog 60 #[.slice A n c, .int .u64 x, .int .i64 (size : Int)] w fun e w' => ∃ v, e = .returned v ∧ OwnB w' w.heap.size v (n + size) (l ++ be x size) ∧ Below w.heap.size w w' := by
  have hmk := run_mk n (n + size) (by omega) (by omega)
  rw [Int.natCast_add] at hmk
  have hcs : (bvs l).length = n := by rw [bvs_len, h.1]
  obtain ⟨cur, hcur⟩ : ∃ cur, cur = (madeCells #[.int .u8 0] (n + size)).toList := ⟨_, rfl⟩
  have hg0 : (w.alloc (.cells (madeCells #[.int .u8 0] (n + size)) 5)).heap[w.heap.size]? = some (.cells cur.toArray 5) := by
    rw [World.alloc_heap_new, hcur]
  have hpos : 0 < (bvs l).length → some (⟨w.heap.size, 0, none⟩ : Addr) = some ⟨w.heap.size, 0, none⟩ ∧ ∃ ad, A = some ad ∧ ∀ j v, (bvs l)[j]? = some v → (w.alloc (.cells (madeCells #[.int .u8 0] (n + size)) 5)).cell? (ad.add j) = some v := by
    intro hp
    obtain ⟨b, off, e, hb, hc⟩ := h.2 (by omega)
    refine ⟨rfl, _, e, fun j v hj => ?_⟩
    have hjl : j < l.length := by have := (List.getElem?_eq_some_iff.1 hj).1; rwa [bvs_len] at this
    rw [bvs_get l j hjl] at hj
    rw [Go.WideShapes.add_plain, ← hj, World.cell?_alloc_lt w _ _ (by simp; omega)]
    exact hc j (by rw [← h.1]; exact hjl)
  have hmin : (bvs l).length = Nat.min n n := by rw [hcs]; exact (Nat.min_self n).symm
  have hbe := (Below.refl w.heap.size w).alloc (Nat.le_refl _) (.cells (madeCells #[.int .u8 0] (n + size)) 5)
  have hcl : cur.length = n + size := by rw [hcur]; simp [size_madeCells]
  have hfit : 0 + (bvs l).length ≤ cur.length := by rw [hcs, hcl]; omega
  go_enter Tryd.func60, Tryd.ntmps60
  go_wp2_with (refine wpList_copy_splice rfl (.tmp 16) (.tmp 17) _ _ rfl 5 Tryd.underlying43 (by kernel_rfl) (some ⟨w.heap.size, 0, none⟩) A n (n + size) n c rfl rfl w.heap.size 0 cur 5 hg0 (bvs l) hmin hpos hfit (bvs_one l) w.heap.size w hbe (Nat.le_refl _) ?_; intro w2 HG2 hB2)
  have hown2 : OwnB w2 w.heap.size (.slice (some ⟨w.heap.size, 0, none⟩) n (n + size)) n l := by
    refine ⟨by rw [bvs_len, h.1]; omega, .inr ⟨w.heap.size, n + size, _, rfl, Nat.le_refl _, HG2.out, by omega, by unfold maxLen; omega, ?_, ?_⟩⟩
    · have := length_splice cur 0 (bvs l) (by omega)
      simp only [List.size_toArray, this]; omega
    · simp [splice, ← hcs]
  clear hg0 hpos hmk
  go_loopw [7, 8] (fun u i wr => ∃ (k : Nat) (v : Value), k ≤ size ∧ u = v ∧ i = .int .i64 ((size : Int) - 1 - k) ∧ OwnB wr w.heap.size v (n + k) (l ++ (be x size).take k) ∧ Below w.heap.size w wr) (fun _ i _ => (intOf i + 1).toNat)
  case atStart => exact ⟨0, _, Nat.zero_le _, rfl, by simp, by simpa using hown2, hB2⟩
  case round =>
    obtain ⟨k, v, hk, rfl, rfl, hown, hbw⟩ := hrel
    have hbs := hbw.size
    by_cases hlt : k < size
    · have hbt := be_take x size k hlt
      have hX := one_byte wr (x / 2 ^ (8 * (size - 1 - k)))
      go_wp2_with (at_builtin; refine wpList_app _ rfl (.tmp 25) (.tmp 31) rfl w.heap.size _ (n + k) _ rfl (hown.alloc _) _ _ 1 1 _ rfl hX (by omega) (by simp; omega) ?_; intro v1 w1 hown1 hg1 hd1; have hb1 : Below w.heap.size w w1 := (hbw.alloc hbs _).trans (OwnB.below_app (hown.alloc _) hg1 (by simp; omega)))
      refine ⟨⟨k + 1, _, by omega, rfl, by congr 1; omega, ?_, hb1⟩, by simp [intOf]; omega⟩
      rw [← hbt, ← List.append_assoc]
      exact hown1
    · obtain rfl : k = size := by omega
      rw [show ((k : Int) - 1 - (k : Int)) = -1 from by omega]
      go_wp2_with fail
      go_ret
      rw [List.take_of_length_le (Nat.le_of_eq (be_len x k))] at hown
      exact ⟨_, rfl, hown, hbw⟩

set_option maxHeartbeats 800000 in
theorem refPut_any (w : World) (A : Option Addr) (n c : Nat) (l : List UInt8) (B : Nat) (h : Byt w B A n l) (hB : B ≤ w.heap.size) (hn : n ≤ 100000000) (x : Int) (hx : 0 ≤ x) (size : Nat) (h4 : size ≤ 4) :
    Calls Tryd.prog 42 #[.slice A n c, .int .u64 x, .int .i64 (size : Int)] w fun e w' => ∃ v, e = .returned v ∧ OwnB w' w.heap.size v (n + size) (l ++ be x size) ∧ Below w.heap.size w w' := by
  have hown0 := OwnB.lit (base := w.heap.size) w [] (Nat.le_refl _) (by simp)
  have hI := h.alloc hB (.cells #[] 5)
  go_enter Tryd.func42, Tryd.ntmps42
  go_wp2_with (at_builtin; refine wpList_app _ rfl (.tmp 9) (.tmp 10) rfl w.heap.size _ 0 [] rfl hown0 B A n c l rfl hI (by omega) (by simp) ?_; intro v2 w2 hown2 hg2 _; have hB2 : Below w.heap.size w w2 := ((Below.refl _ _).alloc (Nat.le_refl _) _).trans (hown0.below_app hg2 (by simp)); rw [Nat.zero_add, List.nil_append] at hown2)
  go_loopw [7, 8] (fun u i wr => ∃ (k : Nat) (v : Value), k ≤ size ∧ u = v ∧ i = .int .i64 ((size : Int) - 1 - k) ∧ OwnB wr w.heap.size v (n + k) (l ++ (be x size).take k) ∧ Below w.heap.size w wr) (fun _ i _ => (intOf i + 1).toNat)
  case atStart => exact ⟨0, _, Nat.zero_le _, rfl, by simp, by simpa using hown2, hB2⟩
  case round =>
    obtain ⟨k, v, hk, rfl, rfl, hown, hbw⟩ := hrel
    have hbs := hbw.size
    by_cases hlt : k < size
    · have hbt := be_take x size k hlt
      have hX := one_byte wr (x / 2 ^ (8 * (size - 1 - k)))
      go_wp2_with (at_builtin; refine wpList_app _ rfl (.tmp 18) (.tmp 25) rfl w.heap.size _ (n + k) _ rfl (hown.alloc _) _ _ 1 1 _ rfl hX (by omega) (by simp; omega) ?_; intro v1 w1 hown1 hg1 hd1; have hb1 : Below w.heap.size w w1 := (hbw.alloc hbs _).trans (OwnB.below_app (hown.alloc _) hg1 (by simp; omega)))
      refine ⟨⟨k + 1, _, by omega, rfl, by congr 1; omega, ?_, hb1⟩, by simp [intOf]; omega⟩
      rw [← hbt, ← List.append_assoc]
      exact hown1
    · obtain rfl : k = size := by omega
      rw [show ((k : Int) - 1 - (k : Int)) = -1 from by omega]
      go_wp2_with fail
      go_ret
      rw [List.take_of_length_le (Nat.le_of_eq (be_len x k))] at hown
      exact ⟨_, rfl, hown, hbw⟩

set_option maxHeartbeats 400000 in
theorem clone_any (w : World) (A : Option Addr) (n c : Nat) (l : List UInt8) (B : Nat) (h : Byt w B A n l) (hB : B ≤ w.heap.size) (hn : n ≤ 100000000) :
    Calls Tryd.prog 70 #[.slice A n c] w fun e w' => ∃ v, e = .returned v ∧ OwnB w' w.heap.size v n l ∧ Below w.heap.size w w' := by
  have hown0 := OwnB.lit (base := w.heap.size) w [] (Nat.le_refl _) (by simp)
  have hI := h.alloc hB (.cells #[] 5)
  have heq := fun w => Go.run_eql_slice_nil (P := Tryd.prog) w 43 5 A n c Tryd.underlying43
  go_enter Tryd.func70, Tryd.ntmps70
  cases A with
  | none =>
    have h0 : n = 0 := by
      rcases Nat.eq_zero_or_pos n with h0 | h0
      · exact h0
      · obtain ⟨_, _, e, _⟩ := h.2 h0; cases e
    subst h0
    obtain rfl : l = [] := List.eq_nil_of_length_eq_zero h.1
    go_wp2_with fail
    go_ret
    exact ⟨_, rfl, OwnB.nil _ _, Below.refl _ _⟩
  | some a =>
    go_wp2_with (at_builtin; refine wpList_app _ rfl (.tmp 5) (.tmp 6) rfl w.heap.size _ 0 [] rfl hown0 B (some a) n c l rfl hI (by omega) (by simp) ?_; intro v2 w2 hown2 hg2 _; have hB2 : Below w.heap.size w w2 := ((Below.refl _ _).alloc (Nat.le_refl _) _).trans (hown0.below_app hg2 (by simp)); rw [Nat.zero_add, List.nil_append] at hown2)
    go_ret
    exact ⟨_, rfl, hown2, hB2⟩

set_option maxHeartbeats 400000 in
theorem put8_any (w : World) (A : Option Addr) (n c : Nat) (l : List UInt8) (B : Nat) (h : Byt w B A n l) (hB : B ≤ w.heap.size) (hn : n ≤ 100000000) (x : Int) :
    Calls Tryd.prog 76 #[.slice A n c, .int .i64 x] w fun e w' => ∃ v, e = .returned v ∧ OwnB w' w.heap.size v (n + 1) (l ++ be (x % 18446744073709551616) 1) ∧ Below w.heap.size w w' := by
  go_enter Tryd.func76, Tryd.ntmps76
  go_wp2_with fail
  refine (put_any w A n c l B h hB hn (x % 18446744073709551616) (by omega) 1 (by omega)).mono ?_
  rintro e w' ⟨v, rfl, h1, h2⟩
  go_wp2_with fail
  go_ret
  exact ⟨_, rfl, h1, h2⟩
set_option maxHeartbeats 400000 in
theorem put16_any (w : World) (A : Option Addr) (n c : Nat) (l : List UInt8) (B : Nat) (h : Byt w B A n l) (hB : B ≤ w.heap.size) (hn : n ≤ 100000000) (x : Int) :
    Calls Tryd.prog 41 #[.slice A n c, .int .i64 x] w fun e w' => ∃ v, e = .returned v ∧ OwnB w' w.heap.size v (n + 2) (l ++ be (x % 18446744073709551616) 2) ∧ Below w.heap.size w w' := by
  go_enter Tryd.func41, Tryd.ntmps41
  go_wp2_with fail
  refine (put_any w A n c l B h hB hn (x % 18446744073709551616) (by omega) 2 (by omega)).mono ?_
  rintro e w' ⟨v, rfl, h1, h2⟩
  go_wp2_with fail
  go_ret
  exact ⟨_, rfl, h1, h2⟩
set_option maxHeartbeats 400000 in
theorem put32_any (w : World) (A : Option Addr) (n c : Nat) (l : List UInt8) (B : Nat) (h : Byt w B A n l) (hB : B ≤ w.heap.size) (hn : n ≤ 100000000) (x : Int) (hx : 0 ≤ x) (hx2 : x ≤ 4294967295) :
    Calls Tryd.prog 44 #[.slice A n c, .int .u32 x] w fun e w' => ∃ v, e = .returned v ∧ OwnB w' w.heap.size v (n + 4) (l ++ be x 4) ∧ Below w.heap.size w w' := by
  go_enter Tryd.func44, Tryd.ntmps44
  go_wp2_with fail
  refine (put_any w A n c l B h hB hn x hx 4 (by omega)).mono ?_
  rintro e w' ⟨v, rfl, h1, h2⟩
  go_wp2_with fail
  go_ret
  exact ⟨_, rfl, h1, h2⟩
end Go.Proofs.YthbfnppgaaeilaaDoor
