/- wire: get, put and the document's. wire: Get16, Get32, the document's Get, put and the document's Put. wire: put and the document's Put, Clone. -/
import Derived.Test.YtfnclmacodchfaaDoorRows
import Derived.Test.YtfnclmacodchfaaDoorLib
import Derived.Laws.BytesArg
import Derived.Laws.CopyOwn
import Derived.BigGuardPart
import Derived.Lib.Hide
import Derived.Deep.OwnRows
import Derived.Lib.LazyBuf
namespace Go.Proofs.YtfnclmacodchfaaDoor
set_option linter.unusedVariables false
open Go.RowKit

theorem shl8_or64 (x y : Int) (hx : 0 ≤ x) (hx2 : x ≤ 16777215) (hy : 0 ≤ y) (hy2 : y ≤ 255) : bits .or .u64 (x * 256) y = x * 256 + y := by
  obtain ⟨a, rfl⟩ := Int.eq_ofNat_of_zero_le hx
  obtain ⟨b, rfl⟩ := Int.eq_ofNat_of_zero_le hy
  show IntKind.u64.wrap ((BitVec.ofInt 64 ((a : Int) * 256) ||| BitVec.ofInt 64 (b : Int)).toNat : Int) = _
  have ha : (BitVec.ofInt 64 ((a : Int) * 256)).toNat = a * 256 := by rw [BitVec.toNat_ofInt]; omega
  have hb : (BitVec.ofInt 64 (b : Int)).toNat = b := by rw [BitVec.toNat_ofInt]; omega
  rw [BitVec.toNat_or, ha, hb, IntKind.wrap_u64]
  have h2 : a * 256 ||| b = a * 256 + b := by
    have := Nat.two_pow_add_eq_or_of_lt (i := 8) (b := b) (by omega) a
    rw [Nat.mul_comm] at this
    exact this.symm
  rw [h2]; omega

/-- the number that bytes are. -/
def getN (l : List UInt8) : Nat → Int
  | 0 => 0
  | k + 1 => getN l k * 256 + byAt l k
theorem getN_lo (l : List UInt8) (k : Nat) : 0 ≤ getN l k := by
  induction k with
  | zero => exact Int.le_refl _
  | succ k ih => have := byAt_lo l k; unfold getN; omega
theorem getN_3 (l : List UInt8) (k : Nat) (h : k ≤ 3) : getN l k ≤ 16777215 := by
  have h0 := byAt_hi l 0; have h1 := byAt_hi l 1; have h2 := byAt_hi l 2
  match k, h with
  | 0, _ => simp [getN]
  | 1, _ => simp [getN]; omega
  | 2, _ => simp [getN]; omega
  | 3, _ => simp [getN]; omega
theorem getN_4 (l : List UInt8) (k : Nat) (h : k ≤ 4) : getN l k ≤ 4294967295 := by
  match k, h with
  | 0, _ => simp [getN]
  | k + 1, h => have := getN_3 l k (by omega); have := byAt_hi l k; unfold getN; omega
theorem getN_2 (l : List UInt8) (k : Nat) (h : k ≤ 2) : getN l k ≤ 65535 := by
  have h0 := byAt_hi l 0; have h1 := byAt_hi l 1
  match k, h with
  | 0, _ => simp [getN]
  | 1, _ => simp [getN]; omega
  | 2, _ => simp [getN]; omega

end Go.Proofs.YtfnclmacodchfaaDoor

namespace Go.Proofs.YtfnclmacodchfaaDoor
set_option linter.unusedVariables false
open Go.RowKit

/-- are there so many bytes at a place? -/
def fitsB (n : Nat) (at_ : Int) (size : Nat) : Bool := decide (0 ≤ at_) && decide (at_ ≤ (n : Int) - size)
theorem fitsB_iff (n : Nat) (at_ : Int) (size : Nat) : fitsB n at_ size = true ↔ 0 ≤ at_ ∧ at_ ≤ (n : Int) - size := by simp [fitsB]

/-- bytes from a place on. -/
def fromI (l : List UInt8) (at_ : Int) : List UInt8 := l.drop at_.toNat
/-- the number at a place. -/
def getV (l : List UInt8) (at_ : Int) (size : Nat) : Int := if fitsB l.length at_ size then getN (fromI l at_) size else 0
theorem getV_lo (l : List UInt8) (at_ : Int) (size : Nat) : 0 ≤ getV l at_ size := by
  unfold getV; split
  · exact getN_lo _ _
  · exact Int.le_refl _
theorem getV_4 (l : List UInt8) (at_ : Int) (size : Nat) (h : size ≤ 4) : getV l at_ size ≤ 4294967295 := by
  unfold getV; split
  · exact getN_4 _ _ h
  · decide

def strB (l : List UInt8) : ByteArray := ⟨l.toArray⟩
theorem strOfNums_l (l : List UInt8) : strOfNums (l.map fun c => (c.toNat : Int)) = strB l := by
  simp only [strOfNums, strB, List.map_map]
  rw [show ((fun n : Int => UInt8.ofNat n.toNat) ∘ fun c : UInt8 => (c.toNat : Int)) = id from funext fun c => by simp, List.map_id]
/-- string(x). -/
theorem run_str (w : World) {B n : Nat} {A : Option Addr} {l : List UInt8} (h : Byt w B A n l) (c : Nat) : (convert 22 9 (.slice A n c)).run Tryd.prog w = .ok (.string (strB l)) w := by
  rcases Nat.eq_zero_or_pos n with h0 | h0
  · subst h0
    obtain rfl : l = [] := List.eq_nil_of_length_eq_zero h.1
    cases A with
    | none => exact run_convert_bytes_nil w 22 5 Tryd.underlying22 Tryd.underlying5 0 c 9 Tryd.underlying9
    | some a =>
      rw [run_convert_bytes_string w 22 9 5 _ 0 c Tryd.underlying22 Tryd.underlying5 Tryd.underlying9]
      rw [run_bytesToString w a 0 c [] (run_loadCells_list w a [] (fun j v hj => by simp at hj))]
      rfl
  · obtain ⟨b, off, rfl, _, hc⟩ := h.2 h0
    have := run_convert_bytes_arg (P := Tryd.prog) w 22 5 Tryd.underlying22 Tryd.underlying5 b off n c (l.map fun c => (c.toNat : Int)) (by simp [h.1])
      (fun i hi => by
        rw [hc i hi]
        have hl : i < l.length := by rw [h.1]; exact hi
        simp [byAt, List.getD, List.getElem?_eq_getElem hl]) 9 Tryd.underlying9
    rw [this, strOfNums_l]

end Go.Proofs.YtfnclmacodchfaaDoor

namespace Go.Proofs.YtfnclmacodchfaaDoor
set_option linter.unusedVariables false
open Go.RowKit

/-- a number's lowest bytes. -/
def be (x : Int) : Nat → List UInt8
  | 0 => []
  | k + 1 => byOf (x / 2 ^ (8 * k)) :: be x k
theorem be_len (x : Int) (k : Nat) : (be x k).length = k := by
  induction k with
  | zero => rfl
  | succ k ih => simp [be, ih]
theorem be_take (x : Int) (size k : Nat) (h : k < size) : (be x size).take k ++ [byOf (x / 2 ^ (8 * (size - 1 - k)))] = (be x size).take (k + 1) := by
  induction size generalizing k with
  | zero => omega
  | succ s ih =>
    cases k with
    | zero => simp [be]
    | succ k =>
      have := ih k (by omega)
      simp only [be, List.take_succ_cons, List.cons_append]
      rw [show s + 1 - 1 - (k + 1) = s - 1 - k from by omega, this]
theorem one_byte (w : World) (z : Int) : Byt (w.alloc (.cells #[.int .u8 (z % 256)] 5)) (w.heap.size + 1) (some ⟨w.heap.size, 0, none⟩) 1 [byOf z] := by
  have h := Byt.new w [byOf z] 5 (0, 0)
  rw [show byCells [byOf z] = #[.int .u8 (z % 256)] from by simp [byCells, byOf_val]] at h
  exact h

/-- make([]byte, n, c). -/
theorem run_mk (n c : Nat) (h : n ≤ c) (hc : c ≤ 140737488355328) (w : World) :
    (Instr.makeSlice 22 (.int .i64 (n : Int)) (.int .i64 (c : Int))).run Tryd.prog w = .ok (.slice (some ⟨w.heap.size, 0, none⟩) n c) (w.alloc (.cells (madeCells #[.int .u8 0] c) 5)) := by
  obtain ⟨i, hi, hz, hs, hb⟩ := info_parts info_u8
  have := run_make w 22 5 i _ Tryd.underlying22 hi hz .i64 .i64 (n : Int) (c : Int) (by omega) (by omega) (by rw [hb]; omega) (by omega)
  simpa [hs, Value.cells] using this

set_option maxHeartbeats 400000 in
theorem clone_any (w : World) (A : Option Addr) (n c : Nat) (l : List UInt8) (B : Nat) (h : Byt w B A n l) (hB : B ≤ w.heap.size) (hn : n ≤ 100000000) :
    Calls Tryd.prog 26 #[.slice A n c] w fun e w' => ∃ v, e = .returned v ∧ OwnB w' w.heap.size v n l ∧ Below w.heap.size w w' := by
  have hown0 := OwnB.lit (base := w.heap.size) w [] (Nat.le_refl _) (by simp)
  have hI := h.alloc hB (.cells #[] 5)
  have heq := fun w => Go.run_eql_slice_nil (P := Tryd.prog) w 22 5 A n c Tryd.underlying22
  go_enter Tryd.func26, Tryd.ntmps26
  cases A with
  | none =>
    have h0 : n = 0 := by
      rcases Nat.eq_zero_or_pos n with h0 | h0
      · exact h0
      · obtain ⟨_, _, e, _⟩ := h.2 h0; cases e
    subst h0
    obtain rfl : l = [] := List.eq_nil_of_length_eq_zero h.1
    go_wp2_with fail
    go_ret
    exact ⟨_, rfl, OwnB.nil _ _, Below.refl _ _⟩
  | some a =>
    go_wp2_with (at_builtin; refine wpList_app _ rfl (.tmp 5) (.tmp 6) rfl w.heap.size _ 0 [] rfl hown0 B (some a) n c l rfl hI (by omega) (by simp) ?_; intro v2 w2 hown2 hg2 _; have hB2 : Below w.heap.size w w2 := ((Below.refl _ _).alloc (Nat.le_refl _) _).trans (hown0.below_app hg2 (by simp)); rw [Nat.zero_add, List.nil_append] at hown2)
    go_ret
    exact ⟨_, rfl, hown2, hB2⟩

end Go.Proofs.YtfnclmacodchfaaDoor
