import Derived.Test.YtecmhakapomepaaGreatRows
import Derived.Test.YtecmhakapomepaaGreatMConfigForms1
import Derived.Laws.BytesArg
import Derived.Laws.CopyOwn
import Derived.BigGuardPart
import Derived.Lib.Hide
import Derived.Deep.OwnRows
import Derived.Lib.LazyBuf
import Derived.Handy
/- wire: get, put and the document's. wire: Get16, Get32, the document's Get, put and the document's Put. wire: put and the document's Put, Clone. -/
namespace Go.Proofs.YtecmhakapomepaaGreat
set_option linter.unusedVariables false
open Go.RowKit

theorem shl8_or64 (x y : Int) (hx : 0 ≤ x) (hx2 : x ≤ 16777215) (hy : 0 ≤ y) (hy2 : y ≤ 255) : bits .or .u64 (x * 256) y = x * 256 + y := by
  obtain ⟨a, rfl⟩ := Int.eq_ofNat_of_zero_le hx
  obtain ⟨b, rfl⟩ := Int.eq_ofNat_of_zero_le hy
  show IntKind.u64.wrap ((BitVec.ofInt 64 ((a : Int) * 256) ||| BitVec.ofInt 64 (b : Int)).toNat : Int) = _
  have ha : (BitVec.ofInt 64 ((a : Int) * 256)).toNat = a * 256 := by rw [BitVec.toNat_ofInt]; omega
  have hb : (BitVec.ofInt 64 (b : Int)).toNat = b := by rw [BitVec.toNat_ofInt]; omega
  rw [BitVec.toNat_or, ha, hb, IntKind.wrap_u64]
  have h2 : a * 256 ||| b = a * 256 + b := by
    have := Nat.two_pow_add_eq_or_of_lt (i := 8) (b := b) (by omega) a
    rw [Nat.mul_comm] at this
    exact this.symm
  rw [h2]; omega

/-- the number that bytes are. -/
def getN (l : List UInt8) : Nat → Int
  | 0 => 0
  | k + 1 => getN l k * 256 + byAt l k
theorem getN_lo (l : List UInt8) (k : Nat) : 0 ≤ getN l k := by
  induction k with
  | zero => exact Int.le_refl _
  | succ k ih => have := byAt_lo l k; unfold getN; omega
theorem getN_3 (l : List UInt8) (k : Nat) (h : k ≤ 3) : getN l k ≤ 16777215 := by
  have h0 := byAt_hi l 0; have h1 := byAt_hi l 1; have h2 := byAt_hi l 2
  match k, h with
  | 0, _ => simp [getN]
  | 1, _ => simp [getN]; omega
  | 2, _ => simp [getN]; omega
  | 3, _ => simp [getN]; omega
theorem getN_4 (l : List UInt8) (k : Nat) (h : k ≤ 4) : getN l k ≤ 4294967295 := by
  match k, h with
  | 0, _ => simp [getN]
  | k + 1, h => have := getN_3 l k (by omega); have := byAt_hi l k; unfold getN; omega
set_option maxHeartbeats 400000 in
theorem get_any (w : World) (A : Option Addr) (n c : Nat) (l : List UInt8) (B : Nat) (h : Byt w B A n l) (hc : n ≤ c) (hc2 : c ≤ maxLen) (size : Nat) (h1 : 0 < size) (h4 : size ≤ 4) (hs : size ≤ n) :
    Calls Tryz.prog 98 #[.slice A n c, .int .i64 (size : Int)] w fun e w' => e = .returned (.int .u64 (getN l size)) ∧ w = w' := by
  obtain ⟨b, off, rfl, hb, hcell⟩ := h.2 (by omega)
  have hsl := slice_hi b off n c size (by omega)
  unfold maxLen at hc2
  go_enter Tryz.func98, Tryz.ntmps98
  go_wp2_with fail
  go_loop [5, 12] (fun u v => ∃ k : Nat, k ≤ size ∧ u = .int .u64 (getN l k) ∧ v = .int .i64 (k : Int)) (fun _ v => size - (intOf v).toNat)
  case atStart => exact ⟨0, by omega, rfl, rfl⟩
  case round =>
    obtain ⟨k, hk, rfl, rfl⟩ := hrel
    by_cases hlt : k < size
    · have hce := hcell k (by omega)
      have g1 := getN_lo l k
      have g2 := getN_3 l k (by omega)
      have b1 := byAt_lo l k
      have b2 := byAt_hi l k
      have hor := shl8_or64 (getN l k) (byAt l k) g1 g2 b1 b2
      go_wp2_with fail
      go_round
      case rel => exact ⟨k + 1, by omega, by simp [getN], by go_num⟩
      case measure => simp [intOf]; omega
    · obtain rfl : k = size := by omega
      go_wp2_with fail
      go_ret
      exact ⟨rfl, rfl⟩

end Go.Proofs.YtecmhakapomepaaGreat

namespace Go.Proofs.YtecmhakapomepaaGreat
set_option linter.unusedVariables false
open Go.RowKit

/-- are there so many bytes at a place? -/
def fitsB (n : Nat) (at_ : Int) (size : Nat) : Bool := decide (0 ≤ at_) && decide (at_ ≤ (n : Int) - size)
theorem fitsB_iff (n : Nat) (at_ : Int) (size : Nat) : fitsB n at_ size = true ↔ 0 ≤ at_ ∧ at_ ≤ (n : Int) - size := by simp [fitsB]

/-- bytes from a place on. -/
def fromI (l : List UInt8) (at_ : Int) : List UInt8 := l.drop at_.toNat
/-- the number at a place. -/
def getV (l : List UInt8) (at_ : Int) (size : Nat) : Int := if fitsB l.length at_ size then getN (fromI l at_) size else 0
set_option maxHeartbeats 400000 in
theorem refGet_any (w : World) (A : Option Addr) (n c : Nat) (l : List UInt8) (B : Nat) (h : Byt w B A n l) (hc : n ≤ c) (hc2 : c ≤ maxLen) (at_ : Int) (hn : n ≤ 140737488355328) (size : Nat) (h1 : 0 < size) (h4 : size ≤ 4) :
    Calls Tryz.prog 100 #[.slice A n c, .int .i64 at_, .int .i64 (size : Int)] w fun e w' => e = .returned (.tuple #[.int .u64 (getV l at_ size), .bool (fitsB n at_ size)]) ∧ w = w' := by
  cases hf : fitsB n at_ size with
  | false =>
    have hf' : ¬ (0 ≤ at_ ∧ at_ ≤ (n : Int) - size) := fun h => by rw [(fitsB_iff _ _ _).2 h] at hf; cases hf
    go_enter Tryz.func100, Tryz.ntmps100
    go_wp2_with fail
    all_goals first | (exfalso; omega) | (go_ret2; exact ⟨by simp [getV, h.1, hf], rfl⟩)
  | true =>
    have hf' := (fitsB_iff _ _ _).1 hf
    obtain ⟨k, rfl⟩ := Int.eq_ofNat_of_zero_le hf'.1
    obtain ⟨b, off, rfl, hb, hcell⟩ := h.2 (by omega)
    have hsl := slice_lh b off n c k (k + size) (by omega) (by omega) (by omega)
    have hcell' := h.drop (m := k) (by omega)
    go_enter Tryz.func100, Tryz.ntmps100
    go_wp2_with fail
    all_goals try (exfalso; omega)
    go_loop [8, 34] (fun u v => ∃ i : Nat, i ≤ size ∧ u = .int .u64 (getN (l.drop k) i) ∧ v = .int .i64 (i : Int)) (fun _ v => size - (intOf v).toNat)
    case atStart => exact ⟨0, by omega, rfl, rfl⟩
    case round =>
      obtain ⟨i, hi, rfl, rfl⟩ := hrel
      by_cases hlt : i < size
      · obtain ⟨b', off', hbb, _, hce⟩ := hcell'.2 (by omega)
        injection hbb with hbb
        injection hbb with e1 e2
        subst e1 e2
        have hce := hce i (by omega)
        have g1 := getN_lo (l.drop k) i
        have g2 := getN_3 (l.drop k) i (by omega)
        have b1 := byAt_lo (l.drop k) i
        have b2 := byAt_hi (l.drop k) i
        have hor := shl8_or64 (getN (l.drop k) i) (byAt (l.drop k) i) g1 g2 b1 b2
        go_wp2_with fail
        all_goals try (exfalso; omega)
        go_round
        case rel => exact ⟨i + 1, by omega, by simp [getN], by go_num⟩
        case measure => simp [intOf]; omega
      · obtain rfl : i = size := by omega
        go_wp2_with fail
        all_goals try (exfalso; omega)
        go_ret2
        exact ⟨by simp [getV, h.1, hf, fromI], rfl⟩

def strB (l : List UInt8) : ByteArray := ⟨l.toArray⟩
theorem strOfNums_l (l : List UInt8) : strOfNums (l.map fun c => (c.toNat : Int)) = strB l := by
  simp only [strOfNums, strB, List.map_map]
  rw [show ((fun n : Int => UInt8.ofNat n.toNat) ∘ fun c : UInt8 => (c.toNat : Int)) = id from funext fun c => by simp, List.map_id]
/-- string(x). -/
theorem run_str (w : World) {B n : Nat} {A : Option Addr} {l : List UInt8} (h : Byt w B A n l) (c : Nat) : (convert 30 9 (.slice A n c)).run Tryz.prog w = .ok (.string (strB l)) w := by
  rcases Nat.eq_zero_or_pos n with h0 | h0
  · subst h0
    obtain rfl : l = [] := List.eq_nil_of_length_eq_zero h.1
    cases A with
    | none => exact run_convert_bytes_nil w 30 5 Tryz.underlying30 Tryz.underlying5 0 c 9 Tryz.underlying9
    | some a =>
      rw [run_convert_bytes_string w 30 9 5 _ 0 c Tryz.underlying30 Tryz.underlying5 Tryz.underlying9]
      rw [run_bytesToString w a 0 c [] (run_loadCells_list w a [] (fun j v hj => by simp at hj))]
      rfl
  · obtain ⟨b, off, rfl, _, hc⟩ := h.2 h0
    have := run_convert_bytes_arg (P := Tryz.prog) w 30 5 Tryz.underlying30 Tryz.underlying5 b off n c (l.map fun c => (c.toNat : Int)) (by simp [h.1])
      (fun i hi => by
        rw [hc i hi]
        have hl : i < l.length := by rw [h.1]; exact hi
        simp [byAt, List.getD, List.getElem?_eq_getElem hl]) 9 Tryz.underlying9
    rw [this, strOfNums_l]

end Go.Proofs.YtecmhakapomepaaGreat

namespace Go.Proofs.YtecmhakapomepaaGreat
set_option linter.unusedVariables false
open Go.RowKit

/-- a number's lowest bytes. -/
def be (x : Int) : Nat → List UInt8
  | 0 => []
  | k + 1 => byOf (x / 2 ^ (8 * k)) :: be x k
theorem be_len (x : Int) (k : Nat) : (be x k).length = k := by
  induction k with
  | zero => rfl
  | succ k ih => simp [be, ih]
theorem be_take (x : Int) (size k : Nat) (h : k < size) : (be x size).take k ++ [byOf (x / 2 ^ (8 * (size - 1 - k)))] = (be x size).take (k + 1) := by
  induction size generalizing k with
  | zero => omega
  | succ s ih =>
    cases k with
    | zero => simp [be]
    | succ k =>
      have := ih k (by omega)
      simp only [be, List.take_succ_cons, List.cons_append]
      rw [show s + 1 - 1 - (k + 1) = s - 1 - k from by omega, this]
theorem one_byte (w : World) (z : Int) : Byt (w.alloc (.cells #[.int .u8 (z % 256)] 5)) (w.heap.size + 1) (some ⟨w.heap.size, 0, none⟩) 1 [byOf z] := by
  have h := Byt.new w [byOf z] 5 (0, 0)
  rw [show byCells [byOf z] = #[.int .u8 (z % 256)] from by simp [byCells, byOf_val]] at h
  exact h

/-- make([]byte, n, c). -/
theorem run_mk (n c : Nat) (h : n ≤ c) (hc : c ≤ 140737488355328) (w : World) :
    (Instr.makeSlice 30 (.int .i64 (n : Int)) (.int .i64 (c : Int))).run Tryz.prog w = .ok (.slice (some ⟨w.heap.size, 0, none⟩) n c) (w.alloc (.cells (madeCells #[.int .u8 0] c) 5)) := by
  obtain ⟨i, hi, hz, hs, hb⟩ := info_parts info_u8
  have := run_make w 30 5 i _ Tryz.underlying30 hi hz .i64 .i64 (n : Int) (c : Int) (by omega) (by omega) (by rw [hb]; omega) (by omega)
  simpa [hs, Value.cells] using this

set_option maxHeartbeats 800000 in
theorem put_any (w : World) (A : Option Addr) (n c : Nat) (l : List UInt8) (B : Nat) (h : Byt w B A n l) (hB : B ≤ w.heap.size) (hn : n ≤ 100000000) (x : Int) (hx : 0 ≤ x) (size : Nat) (h4 : size ≤ 4) :
    Calls Tryz.prog 102 #[.slice A n c, .int .u64 x, .int .i64 (size : Int)] w fun e w' => ∃ v, e = .returned v ∧ OwnB w' w.heap.size v (n + size) (l ++ be x size) ∧ Below w.heap.size w w' := by
  have hmk := run_mk n (n + size) (by omega) (by omega)
  rw [Int.natCast_add] at hmk
  have hcs : (bvs l).length = n := by rw [bvs_len, h.1]
  obtain ⟨cur, hcur⟩ : ∃ cur, cur = (madeCells #[.int .u8 0] (n + size)).toList := ⟨_, rfl⟩
  have hg0 : (w.alloc (.cells (madeCells #[.int .u8 0] (n + size)) 5)).heap[w.heap.size]? = some (.cells cur.toArray 5) := by
    rw [World.alloc_heap_new, hcur]
  have hpos : 0 < (bvs l).length → some (⟨w.heap.size, 0, none⟩ : Addr) = some ⟨w.heap.size, 0, none⟩ ∧ ∃ ad, A = some ad ∧ ∀ j v, (bvs l)[j]? = some v → (w.alloc (.cells (madeCells #[.int .u8 0] (n + size)) 5)).cell? (ad.add j) = some v := by
    intro hp
    obtain ⟨b, off, e, hb, hc⟩ := h.2 (by omega)
    refine ⟨rfl, _, e, fun j v hj => ?_⟩
    have hjl : j < l.length := by have := (List.getElem?_eq_some_iff.1 hj).1; rwa [bvs_len] at this
    rw [bvs_get l j hjl] at hj
    rw [Go.WideShapes.add_plain, ← hj, World.cell?_alloc_lt w _ _ (by simp; omega)]
    exact hc j (by rw [← h.1]; exact hjl)
  have hmin : (bvs l).length = Nat.min n n := by rw [hcs]; exact (Nat.min_self n).symm
  have hbe := (Below.refl w.heap.size w).alloc (Nat.le_refl _) (.cells (madeCells #[.int .u8 0] (n + size)) 5)
  have hcl : cur.length = n + size := by rw [hcur]; simp [size_madeCells]
  have hfit : 0 + (bvs l).length ≤ cur.length := by rw [hcs, hcl]; omega
  go_enter Tryz.func102, Tryz.ntmps102
  go_wp2_with (refine wpList_copy_splice rfl (.tmp 16) (.tmp 17) _ _ rfl 5 Tryz.underlying30 (by kernel_rfl) (some ⟨w.heap.size, 0, none⟩) A n (n + size) n c rfl rfl w.heap.size 0 cur 5 hg0 (bvs l) hmin hpos hfit (bvs_one l) w.heap.size w hbe (Nat.le_refl _) ?_; intro w2 HG2 hB2)
  have hown2 : OwnB w2 w.heap.size (.slice (some ⟨w.heap.size, 0, none⟩) n (n + size)) n l := by
    refine ⟨by rw [bvs_len, h.1]; omega, .inr ⟨w.heap.size, n + size, _, rfl, Nat.le_refl _, HG2.out, by omega, by unfold maxLen; omega, ?_, ?_⟩⟩
    · have := length_splice cur 0 (bvs l) (by omega)
      simp only [List.size_toArray, this]; omega
    · simp [splice, ← hcs]
  clear hg0 hpos hmk
  go_loopw [7, 8] (fun u i wr => ∃ (k : Nat) (v : Value), k ≤ size ∧ u = v ∧ i = .int .i64 ((size : Int) - 1 - k) ∧ OwnB wr w.heap.size v (n + k) (l ++ (be x size).take k) ∧ Below w.heap.size w wr) (fun _ i _ => (intOf i + 1).toNat)
  case atStart => exact ⟨0, _, Nat.zero_le _, rfl, by simp, by simpa using hown2, hB2⟩
  case round =>
    obtain ⟨k, v, hk, rfl, rfl, hown, hbw⟩ := hrel
    have hbs := hbw.size
    by_cases hlt : k < size
    · have hbt := be_take x size k hlt
      have hX := one_byte wr (x / 2 ^ (8 * (size - 1 - k)))
      go_wp2_with (at_builtin; refine wpList_app _ rfl (.tmp 25) (.tmp 31) rfl w.heap.size _ (n + k) _ rfl (hown.alloc _) _ _ 1 1 _ rfl hX (by omega) (by simp; omega) ?_; intro v1 w1 hown1 hg1 hd1; have hb1 : Below w.heap.size w w1 := (hbw.alloc hbs _).trans (OwnB.below_app (hown.alloc _) hg1 (by simp; omega)))
      refine ⟨⟨k + 1, _, by omega, rfl, by congr 1; omega, ?_, hb1⟩, by simp [intOf]; omega⟩
      rw [← hbt, ← List.append_assoc]
      exact hown1
    · obtain rfl : k = size := by omega
      rw [show ((k : Int) - 1 - (k : Int)) = -1 from by omega]
      go_wp2_with fail
      go_ret
      rw [List.take_of_length_le (Nat.le_of_eq (be_len x k))] at hown
      exact ⟨_, rfl, hown, hbw⟩

set_option maxHeartbeats 800000 in
theorem refPut_any (w : World) (A : Option Addr) (n c : Nat) (l : List UInt8) (B : Nat) (h : Byt w B A n l) (hB : B ≤ w.heap.size) (hn : n ≤ 100000000) (x : Int) (hx : 0 ≤ x) (size : Nat) (h4 : size ≤ 4) :
    Calls Tryz.prog 40 #[.slice A n c, .int .u64 x, .int .i64 (size : Int)] w fun e w' => ∃ v, e = .returned v ∧ OwnB w' w.heap.size v (n + size) (l ++ be x size) ∧ Below w.heap.size w w' := by
  have hown0 := OwnB.lit (base := w.heap.size) w [] (Nat.le_refl _) (by simp)
  have hI := h.alloc hB (.cells #[] 5)
  go_enter Tryz.func40, Tryz.ntmps40
  go_wp2_with (at_builtin; refine wpList_app _ rfl (.tmp 9) (.tmp 10) rfl w.heap.size _ 0 [] rfl hown0 B A n c l rfl hI (by omega) (by simp) ?_; intro v2 w2 hown2 hg2 _; have hB2 : Below w.heap.size w w2 := ((Below.refl _ _).alloc (Nat.le_refl _) _).trans (hown0.below_app hg2 (by simp)); rw [Nat.zero_add, List.nil_append] at hown2)
  go_loopw [7, 8] (fun u i wr => ∃ (k : Nat) (v : Value), k ≤ size ∧ u = v ∧ i = .int .i64 ((size : Int) - 1 - k) ∧ OwnB wr w.heap.size v (n + k) (l ++ (be x size).take k) ∧ Below w.heap.size w wr) (fun _ i _ => (intOf i + 1).toNat)
  case atStart => exact ⟨0, _, Nat.zero_le _, rfl, by simp, by simpa using hown2, hB2⟩
  case round =>
    obtain ⟨k, v, hk, rfl, rfl, hown, hbw⟩ := hrel
    have hbs := hbw.size
    by_cases hlt : k < size
    · have hbt := be_take x size k hlt
      have hX := one_byte wr (x / 2 ^ (8 * (size - 1 - k)))
      go_wp2_with (at_builtin; refine wpList_app _ rfl (.tmp 18) (.tmp 25) rfl w.heap.size _ (n + k) _ rfl (hown.alloc _) _ _ 1 1 _ rfl hX (by omega) (by simp; omega) ?_; intro v1 w1 hown1 hg1 hd1; have hb1 : Below w.heap.size w w1 := (hbw.alloc hbs _).trans (OwnB.below_app (hown.alloc _) hg1 (by simp; omega)))
      refine ⟨⟨k + 1, _, by omega, rfl, by congr 1; omega, ?_, hb1⟩, by simp [intOf]; omega⟩
      rw [← hbt, ← List.append_assoc]
      exact hown1
    · obtain rfl : k = size := by omega
      rw [show ((k : Int) - 1 - (k : Int)) = -1 from by omega]
      go_wp2_with fail
      go_ret
      rw [List.take_of_length_le (Nat.le_of_eq (be_len x k))] at hown
      exact ⟨_, rfl, hown, hbw⟩

set_option maxHeartbeats 400000 in
theorem clone_any (w : World) (A : Option Addr) (n c : Nat) (l : List UInt8) (B : Nat) (h : Byt w B A n l) (hB : B ≤ w.heap.size) (hn : n ≤ 100000000) :
    Calls Tryz.prog 62 #[.slice A n c] w fun e w' => ∃ v, e = .returned v ∧ OwnB w' w.heap.size v n l ∧ Below w.heap.size w w' := by
  have hown0 := OwnB.lit (base := w.heap.size) w [] (Nat.le_refl _) (by simp)
  have hI := h.alloc hB (.cells #[] 5)
  have heq := fun w => Go.run_eql_slice_nil (P := Tryz.prog) w 30 5 A n c Tryz.underlying30
  go_enter Tryz.func62, Tryz.ntmps62
  cases A with
  | none =>
    have h0 : n = 0 := by
      rcases Nat.eq_zero_or_pos n with h0 | h0
      · exact h0
      · obtain ⟨_, _, e, _⟩ := h.2 h0; cases e
    subst h0
    obtain rfl : l = [] := List.eq_nil_of_length_eq_zero h.1
    go_wp2_with fail
    go_ret
    exact ⟨_, rfl, OwnB.nil _ _, Below.refl _ _⟩
  | some a =>
    go_wp2_with (at_builtin; refine wpList_app _ rfl (.tmp 5) (.tmp 6) rfl w.heap.size _ 0 [] rfl hown0 B (some a) n c l rfl hI (by omega) (by simp) ?_; intro v2 w2 hown2 hg2 _; have hB2 : Below w.heap.size w w2 := ((Below.refl _ _).alloc (Nat.le_refl _) _).trans (hown0.below_app hg2 (by simp)); rw [Nat.zero_add, List.nil_append] at hown2)
    go_ret
    exact ⟨_, rfl, hown2, hB2⟩

set_option maxHeartbeats 400000 in
theorem put8_any (w : World) (A : Option Addr) (n c : Nat) (l : List UInt8) (B : Nat) (h : Byt w B A n l) (hB : B ≤ w.heap.size) (hn : n ≤ 100000000) (x : Int) :
    Calls Tryz.prog 71 #[.slice A n c, .int .i64 x] w fun e w' => ∃ v, e = .returned v ∧ OwnB w' w.heap.size v (n + 1) (l ++ be (x % 18446744073709551616) 1) ∧ Below w.heap.size w w' := by
  go_enter Tryz.func71, Tryz.ntmps71
  go_wp2_with fail
  refine (put_any w A n c l B h hB hn (x % 18446744073709551616) (by omega) 1 (by omega)).mono ?_
  rintro e w' ⟨v, rfl, h1, h2⟩
  go_wp2_with fail
  go_ret
  exact ⟨_, rfl, h1, h2⟩
set_option maxHeartbeats 400000 in
theorem put16_any (w : World) (A : Option Addr) (n c : Nat) (l : List UInt8) (B : Nat) (h : Byt w B A n l) (hB : B ≤ w.heap.size) (hn : n ≤ 100000000) (x : Int) :
    Calls Tryz.prog 69 #[.slice A n c, .int .i64 x] w fun e w' => ∃ v, e = .returned v ∧ OwnB w' w.heap.size v (n + 2) (l ++ be (x % 18446744073709551616) 2) ∧ Below w.heap.size w w' := by
  go_enter Tryz.func69, Tryz.ntmps69
  go_wp2_with fail
  refine (put_any w A n c l B h hB hn (x % 18446744073709551616) (by omega) 2 (by omega)).mono ?_
  rintro e w' ⟨v, rfl, h1, h2⟩
  go_wp2_with fail
  go_ret
  exact ⟨_, rfl, h1, h2⟩
set_option maxHeartbeats 400000 in
theorem put32_any (w : World) (A : Option Addr) (n c : Nat) (l : List UInt8) (B : Nat) (h : Byt w B A n l) (hB : B ≤ w.heap.size) (hn : n ≤ 100000000) (x : Int) (hx : 0 ≤ x) (hx2 : x ≤ 4294967295) :
    Calls Tryz.prog 70 #[.slice A n c, .int .u32 x] w fun e w' => ∃ v, e = .returned v ∧ OwnB w' w.heap.size v (n + 4) (l ++ be x 4) ∧ Below w.heap.size w w' := by
  go_enter Tryz.func70, Tryz.ntmps70
  go_wp2_with fail
  refine (put_any w A n c l B h hB hn x hx 4 (by omega)).mono ?_
  rintro e w' ⟨v, rfl, h1, h2⟩
  go_wp2_with fail
  go_ret
  exact ⟨_, rfl, h1, h2⟩
end Go.Proofs.YtecmhakapomepaaGreat

/- wire: a Source's take. wire: a Source's methods. wire: lives. wire: a source that no call made; End. wire: End, Rest, Sub of a source that was made. -/
namespace Go.Proofs.YtecmhakapomepaaGreat
set_option linter.unusedVariables false
open Go.RowKit

/-- what a source is: the bytes that are left, how many are not, the error. -/
structure St where
  l : List UInt8
  at_ : Int
  e : Int
/-- the next n bytes. -/
def tk (s : St) (n : Int) : St × List UInt8 :=
  if s.e ≠ 0 then (s, [])
  else if n < 0 then (⟨s.l, s.at_, 2⟩, [])
  else if (s.l.length : Int) < n then (⟨s.l, s.at_, 3⟩, [])
  else (⟨s.l.drop n.toNat, s.at_ + n, 0⟩, s.l.take n.toNat)

/-- block g is a Source of state s, its bytes in blocks below g. -/
def Src (w : World) (g : Nat) (s : St) : Prop :=
  ∃ A n c, n ≤ c ∧ c ≤ maxLen ∧ Blk w g 110 #[.bool true, .slice A n c, .int .i64 s.at_, .int .i64 s.e] ∧ Byt w g A n s.l ∧ 0 ≤ s.at_ ∧ s.at_ + s.l.length ≤ 100000000
section
variable {w w' : World} {g : Nat} {s : St}
theorem Src.lt (h : Src w g s) : g < w.heap.size := by obtain ⟨A, n, c, _, _, hb, _⟩ := h; exact hb.lt
theorem Src.below {B : Nat} (h : Src w g s) (hb : Below B w w') (hg : g < B) : Src w' g s := by
  obtain ⟨A, n, c, h1, h2, h3, h4, h5⟩ := h
  exact ⟨A, n, c, h1, h2, h3.below hb hg, h4.keep fun p hp => hb.cell (by omega), h5⟩
theorem Src.drew (h : Src w g s) : Src w.drew g s := h
theorem Src.drewN (h : Src w g s) (k : Nat) : Src (w.drewN k) g s := h
theorem Src.alloc (h : Src w g s) (o : Obj) : Src (w.alloc o) g s := h.below ((Below.refl w.heap.size w).alloc (Nat.le_refl _) o) h.lt
theorem Src.grown {row : Nat} (h : Src w g s) (hb : w.grownBy w' (some row)) (hg : g < row) : Src w' g s := by
  have hlt := h.lt
  obtain ⟨A, n, c, h1, h2, h3, h4, h5⟩ := h
  have hbe : Below (g + 1) w w' := ⟨hb.os, hb.tape, hb.output, hb.size, fun k hk => hb.block k (by omega) (by simp; omega)⟩
  exact ⟨A, n, c, h1, h2, h3.below hbe (by omega), h4.keep fun p hp => hbe.cell (by omega), h5⟩
end

set_option maxHeartbeats 400000 in
theorem ok_any (w : World) (g : Nat) (s : St) (h : Src w g s) :
    Calls Tryz.prog 99 #[.pointer (some ⟨g, 0, none⟩)] w fun e w' => e = .returned (.bool (decide (s.e = 0))) ∧ w = w' := by
  obtain ⟨A, n, c, h1, h2, h3, h4, h5, h6⟩ := h
  have c0 := h3.cellv 0 (v := .bool true) rfl
  have c3 := h3.cellv 3 (v := .int .i64 s.e) rfl
  go_enter Tryz.func99, Tryz.ntmps99
  go_wp2_with fail
  all_goals go_ret
  all_goals exact ⟨ret_bool (by first | rfl | (simp; done) | (simp; omega)), rfl⟩

set_option maxHeartbeats 1000000 in
theorem take_any (w : World) (g : Nat) (s : St) (h : Src w g s) (m : Int) :
    Calls Tryz.prog 97 #[.pointer (some ⟨g, 0, none⟩), .int .i64 m] w fun e w' => ∃ A k, e = .returned (.slice A k k) ∧ Byt w' g A k (tk s m).2 ∧ Src w' g (tk s m).1 ∧ w.grownBy w' (some g) := by
  have hs := h
  obtain ⟨A, n, c, h1, h2, h3, h4, h5, h6⟩ := h
  have hlen := h4.1
  have hm := h2
  unfold maxLen at hm
  go_enter Tryz.func97, Tryz.ntmps97
  go_wp2_with fail
  refine (ok_any w g s hs).mono ?_
  rintro e w' ⟨rfl, rfl⟩
  by_cases he : s.e = 0
  · have hed : decide (s.e = 0) = true := by simp [he]
    rw [hed]
    have c1 := h3.cellv 1 (v := .slice A n c) rfl
    have c2 := h3.cellv 2 (v := .int .i64 s.at_) rfl
    have f1 := h3.frozen 1
    have f2 := h3.frozen 2
    have f3 := h3.frozen 3
    have c3 := h3.cellv 3 (v := .int .i64 s.e) rfl
    by_cases m0 : m < 0
    · have ht : tk s m = (⟨s.l, s.at_, 2⟩, []) := by simp [tk, he, m0]
      go_wp2_with fail
      go_ret
      refine ⟨none, 0, rfl, ?_, ?_, ?_⟩
      · rw [ht]; exact byt_empty _ _ _
      · rw [ht]
        exact ⟨A, n, c, h1, h2, h3.set_ 3 _, h4.setCell (by simp) _, h5, h6⟩
      · exact grown_setCell (grown_refl _ _) (.inl rfl) _
    · by_cases m1 : (s.l.length : Int) < m
      · have ht : tk s m = (⟨s.l, s.at_, 3⟩, []) := by simp [tk, he, m0, m1]
        have m1' : (n : Int) < m := by omega
        go_wp2_with fail
        go_ret
        refine ⟨none, 0, rfl, ?_, ?_, ?_⟩
        · rw [ht]; exact byt_empty _ _ _
        · rw [ht]
          exact ⟨A, n, c, h1, h2, h3.set_ 3 _, h4.setCell (by simp) _, h5, h6⟩
        · exact grown_setCell (grown_refl _ _) (.inl rfl) _
      · have ht : tk s m = (⟨s.l.drop m.toNat, s.at_ + m, 0⟩, s.l.take m.toNat) := by simp [tk, he, m0, m1]
        obtain ⟨k, rfl⟩ := Int.eq_ofNat_of_zero_le (show 0 ≤ m by omega)
        have hkn : k ≤ n := by omega
        have hkl : ¬ (n : Int) < (k : Int) := by omega
        obtain ⟨A1, r1, b1⟩ := slice_take3 A n c k (by omega) h1
        obtain ⟨A2, r2, b2⟩ := slice_drop A n c k (by omega) h1
        go_wp2_with fail
        go_region
        go_wp2_with fail
        go_ret
        refine ⟨A1, k, rfl, ?_, ?_, grown_drew (grown_setCell (g := g) (p := ⟨g, 2, none⟩) (grown_setCell (g := g) (p := ⟨g, 1, none⟩) (grown_refl _ _) (.inl rfl) _) (.inl rfl) _)⟩
        · rw [ht]; exact (((b1 w g s.l h4).setCell (p := ⟨g, 1, none⟩) (Nat.le_refl _) _).setCell (p := ⟨g, 2, none⟩) (Nat.le_refl _) _).drew
        · rw [ht]
          refine ⟨A2, n - k, c - k, by omega, by omega, ((h3.set_ 1 _).set_ 2 _).drew.trans ?_, (((b2 w g s.l h4).setCell (p := ⟨g, 1, none⟩) (Nat.le_refl _) _).setCell (p := ⟨g, 2, none⟩) (Nat.le_refl _) _).drew, by simp; omega, by simp; omega⟩
          rw [he]; rfl
  · have hed : decide (s.e = 0) = false := by simp [he]
    rw [hed]
    go_wp2_with fail
    go_ret
    have ht : tk s m = (s, []) := by simp [tk, he]
    refine ⟨none, 0, rfl, ?_, ?_, grown_refl _ _⟩
    · rw [ht]; exact byt_empty _ _ _
    · rw [ht]; exact hs
end Go.Proofs.YtecmhakapomepaaGreat

namespace Go.Proofs.YtecmhakapomepaaGreat
set_option linter.unusedVariables false
open Go.RowKit

theorem tk_max (s : St) (n : Int) : (tk s n).2.length ≤ s.l.length := by
  unfold tk
  split
  · exact Nat.zero_le _
  · split
    · exact Nat.zero_le _
    · split
      · exact Nat.zero_le _
      · simp only [List.length_take]
        omega
/-- the number that is got. -/
def numV (s : St) (k : Nat) : Int := if (tk s k).2.length < k then 0 else getN (tk s k).2 k
theorem numV_lo (s : St) (k : Nat) : 0 ≤ numV s k := by
  unfold numV; split
  · exact Int.le_refl _
  · exact getN_lo _ _
theorem numV_4 (s : St) (k : Nat) (h : k ≤ 4) : numV s k ≤ 4294967295 := by
  unfold numV; split
  · decide
  · exact getN_4 _ _ h

theorem Src.max {w : World} {g : Nat} {s : St} (h : Src w g s) : s.l.length ≤ 100000000 := by
  obtain ⟨A, n, c, _, _, _, _, h5, h6⟩ := h; omega

set_option maxHeartbeats 400000 in
theorem num_any (w : World) (g : Nat) (s : St) (h : Src w g s) (size : Nat) (h1 : 0 < size) (h4 : size ≤ 4) :
    Calls Tryz.prog 63 #[.pointer (some ⟨g, 0, none⟩), .int .i64 (size : Int)] w fun e w' => e = .returned (.int .u64 (numV s size)) ∧ Src w' g (tk s size).1 ∧ w.grownBy w' (some g) := by
  have hmx := h.max
  have hmx2 := tk_max s size
  go_enter Tryz.func63, Tryz.ntmps63
  go_wp2_with fail
  refine (take_any w g s h size).mono ?_
  rintro e w1 ⟨A, k, rfl, hb, hs, hg⟩
  have hl := hb.1
  by_cases hlt : k < size
  · have hv : numV s size = 0 := by simp [numV, hl, hlt]
    go_wp2_with fail
    go_ret
    exact ⟨ret_int hv.symm, hs, hg⟩
  · have hv : numV s size = getN (tk s size).2 size := by simp [numV, hl, hlt]
    go_wp2_with fail
    refine (get_any w1 A k k _ g hb (Nat.le_refl _) (by unfold maxLen; omega) size h1 h4 (by omega)).mono ?_
    rintro e w' ⟨rfl, rfl⟩
    go_wp2_with fail
    go_ret
    exact ⟨ret_int hv.symm, hs, hg⟩

set_option maxHeartbeats 400000 in
theorem u8_any (w : World) (g : Nat) (s : St) (h : Src w g s) :
    Calls Tryz.prog 17 #[.pointer (some ⟨g, 0, none⟩)] w fun e w' => e = .returned (.int .i64 (numV s 1)) ∧ Src w' g (tk s 1).1 ∧ w.grownBy w' (some g) := by
  have b1 := numV_lo s 1
  have b2 := numV_4 s 1 (by omega)
  go_enter Tryz.func17, Tryz.ntmps17
  go_wp2_with fail
  refine (num_any w g s h 1 (by omega) (by omega)).mono ?_
  rintro e w1 ⟨rfl, hs, hg⟩
  go_wp2_with fail
  go_ret
  exact ⟨rfl, hs, hg⟩
set_option maxHeartbeats 400000 in
theorem u16_any (w : World) (g : Nat) (s : St) (h : Src w g s) :
    Calls Tryz.prog 18 #[.pointer (some ⟨g, 0, none⟩)] w fun e w' => e = .returned (.int .i64 (numV s 2)) ∧ Src w' g (tk s 2).1 ∧ w.grownBy w' (some g) := by
  have b1 := numV_lo s 2
  have b2 := numV_4 s 2 (by omega)
  go_enter Tryz.func18, Tryz.ntmps18
  go_wp2_with fail
  refine (num_any w g s h 2 (by omega) (by omega)).mono ?_
  rintro e w1 ⟨rfl, hs, hg⟩
  go_wp2_with fail
  go_ret
  exact ⟨rfl, hs, hg⟩
set_option maxHeartbeats 400000 in
theorem u32_any (w : World) (g : Nat) (s : St) (h : Src w g s) :
    Calls Tryz.prog 19 #[.pointer (some ⟨g, 0, none⟩)] w fun e w' => e = .returned (.int .u32 (numV s 4)) ∧ Src w' g (tk s 4).1 ∧ w.grownBy w' (some g) := by
  have b1 := numV_lo s 4
  have b2 := numV_4 s 4 (by omega)
  go_enter Tryz.func19, Tryz.ntmps19
  go_wp2_with fail
  refine (num_any w g s h 4 (by omega) (by omega)).mono ?_
  rintro e w1 ⟨rfl, hs, hg⟩
  go_wp2_with fail
  go_ret
  exact ⟨rfl, hs, hg⟩

set_option maxHeartbeats 400000 in
theorem err_any (w : World) (g : Nat) (s : St) (h : Src w g s) :
    Calls Tryz.prog 64 #[.pointer (some ⟨g, 0, none⟩)] w fun e w' => e = .returned (.int .i64 s.e) ∧ w = w' := by
  obtain ⟨A, n, c, h1, h2, h3, h4, h5, h6⟩ := h
  have c0 := h3.cellv 0 (v := .bool true) rfl
  have c3 := h3.cellv 3 (v := .int .i64 s.e) rfl
  go_enter Tryz.func64, Tryz.ntmps64
  go_wp2_with fail
  go_ret
  exact ⟨rfl, rfl⟩
def leftV (s : St) : Int := if s.e = 0 then s.l.length else 0
set_option maxHeartbeats 400000 in
theorem left_any (w : World) (g : Nat) (s : St) (h : Src w g s) :
    Calls Tryz.prog 66 #[.pointer (some ⟨g, 0, none⟩)] w fun e w' => e = .returned (.int .i64 (leftV s)) ∧ w = w' := by
  have hs := h
  obtain ⟨A, n, c, h1, h2, h3, h4, h5, h6⟩ := h
  have hl := h4.1
  have c1 := h3.cellv 1 (v := .slice A n c) rfl
  go_enter Tryz.func66, Tryz.ntmps66
  go_wp2_with fail
  refine (ok_any w g s hs).mono ?_
  rintro e w' ⟨rfl, rfl⟩
  by_cases he : s.e = 0
  · have hv : leftV s = n := by simp [leftV, he, hl]
    have hed : decide (s.e = 0) = true := by simp [he]
    rw [hed]
    go_wp2_with fail
    go_ret
    exact ⟨ret_int hv.symm, rfl⟩
  · have hv : leftV s = 0 := by simp [leftV, he]
    have hed : decide (s.e = 0) = false := by simp [he]
    rw [hed]
    go_wp2_with fail
    go_ret
    exact ⟨ret_int hv.symm, rfl⟩
set_option maxHeartbeats 400000 in
theorem read_any (w : World) (A : Option Addr) (n c : Nat) (l : List UInt8) (B : Nat) (h : Byt w B A n l) (hB : B ≤ w.heap.size) (hn : n ≤ 100000000) :
    Calls Tryz.prog 16 #[.slice A n c] w fun e w' => ∃ g, e = .returned (.pointer (some ⟨g, 0, none⟩)) ∧ w.heap.size ≤ g ∧ Src w' g ⟨l, 0, 0⟩ ∧ Below w.heap.size w w' := by
  go_enter Tryz.func16, Tryz.ntmps16
  go_wp2_with fail
  refine (clone_any w A n c l B h hB hn).mono ?_
  rintro e w1 ⟨v, rfl, hown, hb⟩
  obtain ⟨A1, c1, rfl, hc1, hby, hA⟩ := hown.any
  have hc2 : c1 ≤ maxLen := by
    rcases Nat.eq_zero_or_pos n with h0 | h0
    · rcases hown.2 with ⟨e, _⟩ | ⟨g, cap, cur, e, _, _, _, hm, _⟩
      · injection e with _ _ e; rw [e]; exact Nat.zero_le _
      · injection e with _ _ e; rw [e]; exact hm
    · obtain ⟨g, cap, e, _, _, _, hm⟩ := hown.form h0
      injection e with _ _ e; rw [e]; exact hm
  have hl := h.1
  go_wp2_with fail
  go_ret
  refine ⟨_, rfl, hb.size, ⟨A1, n, c1, hc1, hc2, Blk.new _ _ _, hby.alloc (Nat.le_refl _) _, by simp, by simp; omega⟩, hb.alloc hb.size _⟩

end Go.Proofs.YtecmhakapomepaaGreat

namespace Go.Proofs.YtecmhakapomepaaGreat
set_option linter.unusedVariables false
open Go.RowKit

end Go.Proofs.YtecmhakapomepaaGreat

namespace Go.Proofs.YtecmhakapomepaaGreat
set_option linter.unusedVariables false
open Go.RowKit

/-- nil, or a Source that is zero. -/
def Dead (w : World) (v : Value) : Prop := v = .pointer none ∨ ∃ g, v = .pointer (some ⟨g, 0, none⟩) ∧ Blk w g 110 #[.bool false, .slice none 0 0, .int .i64 0, .int .i64 0]
theorem Dead.below {w w' : World} {v : Value} (h : Dead w v) (hb : Below w.heap.size w w') : Dead w' v := by
  rcases h with h | ⟨g, h, hk⟩
  · exact .inl h
  · exact .inr ⟨g, h, hk.below hb hk.lt⟩

theorem fn0 : ∀ (x0 x1 : Value) (w : World), (Instr.index 112 (.agg #[x0, x1]) (.int .i64 0)).run Tryz.prog w = .ok x0 w := fun _ _ _ => by kernel_rfl
theorem fn1 : ∀ (x0 x1 : Value) (w : World), (Instr.index 112 (.agg #[x0, x1]) (.int .i64 1)).run Tryz.prog w = .ok x1 w := fun _ _ _ => by kernel_rfl

end Go.Proofs.YtecmhakapomepaaGreat

namespace Go.Proofs.YtecmhakapomepaaGreat
set_option linter.unusedVariables false
open Go.RowKit

def endV (s : St) : Int := if s.e ≠ 0 then s.e else if 0 < leftV s then 4 else 0

set_option maxHeartbeats 400000 in
theorem end1_any (w : World) (g gb : Nat) (s : St) (h : Src w g s) (hbx : w.cell? ⟨gb, 0, none⟩ = some (.pointer (some ⟨g, 0, none⟩))) :
    Calls Tryz.prog 65 #[.pointer (some ⟨gb, 0, none⟩)] w fun e w' => e = .returned (.int .i64 (if 0 < leftV s then 4 else 0)) ∧ w = w' := by
  go_enter Tryz.func65, Tryz.ntmps65
  go_wp2_with fail
  refine (left_any w g s h).mono ?_
  rintro e w' ⟨rfl, rfl⟩
  by_cases hl : 0 < leftV s
  · go_wp2_with fail
    go_ret
    exact ⟨ret_int (by simp), rfl⟩
  · go_wp2_with fail
    go_ret
    exact ⟨ret_int (by simp), rfl⟩

set_option maxHeartbeats 1000000 in
theorem end_any (w : World) (g : Nat) (s : St) (h : Src w g s) :
    Calls Tryz.prog 29 #[.pointer (some ⟨g, 0, none⟩)] w fun e w' => e = .returned (.int .i64 (endV s)) ∧ Below w.heap.size w w' := by
  have i0 := fn0
  have i1 := fn1
  have hst := fun (w : World) (p : Addr) (f : Fn) (x y : Array Value) (m : Mode) => run_store Tryz.prog w p (.func f x y) m rfl
  have hb1 := ((Below.refl w.heap.size w).alloc (Nat.le_refl _) (.cells #[.pointer (some ⟨g, 0, none⟩)] 57)).alloc (by simp) (.cells #[.func (.func 64) #[.pointer (some ⟨g, 0, none⟩)] #[], .func (.func 65) #[] #[.pointer (some ⟨w.heap.size, 0, none⟩)]] 112)
  have hS := h.below hb1 h.lt
  have hbx := ((Blk.new w 57 #[.pointer (some ⟨g, 0, none⟩)]).alloc (.cells #[.func (.func 64) #[.pointer (some ⟨g, 0, none⟩)] #[], .func (.func 65) #[] #[.pointer (some ⟨w.heap.size, 0, none⟩)]] 112)).cellv 0 (v := .pointer (some ⟨g, 0, none⟩)) rfl
  go_enter Tryz.func29, Tryz.ntmps29
  go_wp2_with fail
  refine wp_loop_rounds 3 ?_
  rw [rounds_succ]
  go_wp2_with fail
  refine (err_any _ g s hS).mono ?_
  rintro e w' ⟨rfl, rfl⟩
  by_cases he : s.e = 0
  · have hv : endV s = if 0 < leftV s then 4 else 0 := by simp [endV, he]
    rw [he]
    go_wp2_with fail
    rw [rounds_succ]
    go_wp2_with fail
    refine (end1_any _ g _ s hS hbx).mono ?_
    rintro e w' ⟨rfl, rfl⟩
    rw [← hv]
    by_cases h0 : endV s = 0
    · rw [h0]
      go_wp2_with fail
      rw [rounds_succ]
      go_wp2_with fail
      go_ret
      exact ⟨ret_int h0.symm, hb1⟩
    · go_wp2_with fail
      go_ret
      exact ⟨rfl, hb1⟩
  · have hv : endV s = s.e := by simp [endV, he]
    go_wp2_with fail
    go_ret
    exact ⟨ret_int hv.symm, hb1⟩

end Go.Proofs.YtecmhakapomepaaGreat
