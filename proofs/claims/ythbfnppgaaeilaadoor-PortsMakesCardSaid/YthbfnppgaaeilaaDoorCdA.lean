/- strings of lists of bytes; Itoa of any int, strings.Join, the document's Digits. -/
import Derived.Test.YthbfnppgaaeilaaDoorCdL
import Derived.Test.YthbfnppgaaeilaaDoorWira
import Derived.Test.YthbfnppgaaeilaaDoorRows
import Derived.Lib.AppendIntMem
import Derived.Lib.ItoaLen
import Derived.Lib.LaidU8
import Derived.MakeChecks
namespace Go.Proofs.YthbfnppgaaeilaaDoor
set_option linter.unusedVariables false
open Go Go.RowKit

theorem strB_list (l : List UInt8) : (strB l).data.toList = l := by simp [strB]
theorem strB_cat (a b : List UInt8) : strB a ++ strB b = strB (a ++ b) := by
  apply ByteArray.ext
  simp [strB]
theorem strB_size (l : List UInt8) : (strB l).size = l.length := by
  show (strB l).data.size = _
  simp [strB]
/-- a sum of strings fits. -/
def catOk (a b : List UInt8) : Bool := decide (a.length + b.length ≤ 9223372036854775807)
theorem catOk_of {a b : List UInt8} (h : a.length + b.length ≤ 9223372036854775807) : catOk a b = true := decide_eq_true h
@[go_sem high] theorem cat_ss {P : Program} (w : World) (a b : List UInt8) : (Op.stringOp .add (strB a) (strB b)).run P w =
    if catOk a b then .ok (.string (strB (a ++ b))) w else .halt (.unsupported (.resourceLimit "string concatenation: a sum of the lengths that is no int")) w := by
  have e := run_string_add_if (P := P) w (strB a) (strB b)
  rw [e, strB_size, strB_size, strB_cat]
  by_cases h : a.length + b.length ≤ 9223372036854775807
  · rw [if_pos (catOk_of h), if_neg (by omega)]
  · rw [if_pos (show a.length + b.length > 9223372036854775807 by omega), if_neg (show ¬ catOk a b = true by unfold catOk; simpa using h)]
@[go_sem high] theorem cat_sm {P : Program} (w : World) (a : List UInt8) (b : Array UInt8) : (Op.stringOp .add (strB a) ⟨b⟩).run P w =
    if catOk a b.toList then .ok (.string (strB (a ++ b.toList))) w else .halt (.unsupported (.resourceLimit "string concatenation: a sum of the lengths that is no int")) w := by
  have e := cat_ss (P := P) w a b.toList
  have e2 : strB b.toList = ⟨b⟩ := by simp [strB]
  rwa [e2] at e
@[go_sem high] theorem cat_ms {P : Program} (w : World) (a : Array UInt8) (b : List UInt8) : (Op.stringOp .add ⟨a⟩ (strB b)).run P w =
    if catOk a.toList b then .ok (.string (strB (a.toList ++ b))) w else .halt (.unsupported (.resourceLimit "string concatenation: a sum of the lengths that is no int")) w := by
  have e := cat_ss (P := P) w a.toList b
  have e2 : strB a.toList = ⟨a⟩ := by simp [strB]
  rwa [e2] at e
/-- what the row lists. -/
def laidL : List (String × DataW Unit) := [("math/bits.deBruijn32tab", Rows.laid_math_bits_deBruijn32tab), ("math/bits.deBruijn64tab", Rows.laid_math_bits_deBruijn64tab), ("internal/strconv.uint64pow10", Rows.laid_internal_strconv_uint64pow10)]
/-- the table of powers reads, whatever is done from here on. -/
def Pow (w : World) : Prop := ∀ w', Below w.heap.size w w' → Lib.TabIs Tryd.prog w' "internal/strconv.uint64pow10" .u64 Lib.pow10Tab
theorem Pow.below {w w' : World} (h : Pow w) (hb : Below w.heap.size w w') : Pow w' := fun w2 h2 => h w2 (hb.trans (h2.mono hb.size))
theorem Pow.here {w : World} (h : Pow w) : Lib.TabIs Tryd.prog w "internal/strconv.uint64pow10" .u64 Lib.pow10Tab := h w (Below.refl _ _)
theorem gPow : Tryd.prog.globalNamed "internal/strconv.uint64pow10" = some 0 := by kernel_rfl
theorem pow_of {W : World} (h : laidMetH Tryd.prog laidL W) : Pow W := by
  rw [MakeChecks.laidMetH_plain _ _ _ (by kernel_rfl)] at h
  obtain ⟨g, t, cs, fuel, p, hg, ht, hv, hd⟩ := Lib.laidMet.reads h (n := "internal/strconv.uint64pow10") (d := Rows.laid_internal_strconv_uint64pow10) (by simp [laidL])
  have e : (Tryd.prog.globals[0]?).map (·.type) = some 138 := by kernel_rfl
  obtain rfl := Option.some.inj (gPow.symm.trans hg)
  obtain rfl := Option.some.inj (e.symm.trans ht)
  have ed : (Rows.laid_internal_strconv_uint64pow10 : DataW Unit) = Lib.tabData .u64 Lib.pow10Tab := rfl
  rw [ed] at hd
  have hc := Lib.cells_of_tab Tryd.underlying138 Tryd.underlying68 (by kernel_rfl) (by kernel_rfl) hd
  exact Lib.tabBelow_of_tabIs (by unfold Lib.TabIs; rw [hv, ← hc])
theorem itoa_any (w : World) (hP : Pow w) (n : Int) (h0 : -9223372036854775808 ≤ n) (h1 : n ≤ 9223372036854775807) :
    Calls Tryd.prog 29 #[.int .i64 n] w fun e w' => e = .returned (.string (strB (Lib.itoa n))) ∧ Below w.heap.size w w' := by
  refine (Any.strconv_Itoa Tryd.itoaL n h0 h1 w hP.here).mono ?_
  rintro e w' ⟨rfl, k, os, rfl⟩
  exact ⟨rfl, Lib.below_grow _ w (Nat.le_refl _) k os⟩
theorem joinX : Builder.Extra Tryd.prog Tryd.joinL_ren := {
  sizeBuilder := by kernel_rfl
  liesBuilder := by kernel_rfl
  t5 := Tryd.underlying5
  a5 := Tryd.isAgg5
  z5 := Tryd.sizeOf5
  v5 := Tryd.zeroValue5
  infoByte := by kernel_rfl
  cellsByte := by kernel_rfl
  sizeByte := by kernel_rfl
  neB5 := by decide }
/-- strings joined. -/
theorem join_any (w : World) (g c : Nat) (ls : List (List UInt8)) (sep : List UInt8) (hc : ∀ j x, ls[j]? = some x → w.cell? ⟨g, j, none⟩ = some (.string (strB x))) (hg : g < w.heap.size) (hn : ls.length ≤ c) (hN : ls.length ≤ 1000000) (hl : (Lib.join ls sep).length ≤ 1000000) :
    Calls Tryd.prog 31 #[.slice (some ⟨g, 0, none⟩) ls.length c, .string (strB sep)] w fun e w' => e = .returned (.string (strB (Lib.join ls sep))) ∧ Below w.heap.size w w' := by
  have e : (ls.map strB).map (·.data.toList) = ls := by
    rw [List.map_map, show ((fun x : ByteArray => x.data.toList) ∘ strB) = id from funext fun l => strB_list l, List.map_id]
  have h := Any.strings_Join Tryd.joinL joinX g 0 c (ls.map strB) (strB sep) w (by
    intro j x hx
    rw [List.getElem?_map] at hx
    obtain ⟨y, hy, rfl⟩ := Option.map_eq_some_iff.1 hx
    rw [Nat.zero_add]
    exact hc j y hy) hg (by simp; omega) (by simpa using hn) (by rw [e, strB_list]; omega)
  rw [e, strB_list, List.length_map] at h
  exact h
set_option maxRecDepth 100000 in
set_option maxHeartbeats 4000000 in
theorem refDigits_any (n : Nat) : n < 9223372036854775808 → ∀ w : World, Calls Tryd.prog 32 #[.int .i64 (n : Int)] w fun e w' => e = .returned (.string (strB (Lib.decDigits n))) ∧ w = w' := by
  induction n using Nat.strongRecOn with
  | _ n ih =>
    intro hn w
    by_cases h : n < 10
    · rw [Lib.decDigits, dif_pos h]
      have hc : n = 0 ∨ n = 1 ∨ n = 2 ∨ n = 3 ∨ n = 4 ∨ n = 5 ∨ n = 6 ∨ n = 7 ∨ n = 8 ∨ n = 9 := by omega
      clear ih h hn
      rcases hc with rfl | rfl | rfl | rfl | rfl | rfl | rfl | rfl | rfl | rfl <;>
      · go_enter Tryd.func32, Tryd.ntmps32
        go_wp2_with fail
        go_ret
        exact ⟨rfl, rfl⟩
    · rw [Lib.decDigits, dif_neg h]
      have k1 : ¬ ((n : Int) < 10) := by omega
      have i1 := ih (n / 10) (by omega) (by omega)
      have i2 := ih (n % 10) (by omega) (by omega)
      have e2 : Lib.decDigits (n % 10) = [UInt8.ofNat (48 + n % 10)] := by rw [Lib.decDigits, dif_pos (by omega)]
      rw [← e2]
      clear ih e2
      have z1 : (Lib.decDigits (n / 10)).length ≤ 20 := by rw [Lib.decDigits_length]; exact Lib.nDigits_le20 _ (by omega)
      have z2 : (Lib.decDigits (n % 10)).length ≤ 20 := by rw [Lib.decDigits_length]; exact Lib.nDigits_le20 _ (by omega)
      rw [show ((n / 10 : Nat) : Int) = (n : Int) / 10 by omega] at i1
      rw [show ((n % 10 : Nat) : Int) = (n : Int) % 10 by omega] at i2
      generalize Lib.decDigits (n / 10) = L1 at *
      generalize Lib.decDigits (n % 10) = L2 at *
      have hs := catOk_of (a := L1) (b := L2) (by omega)
      clear z1 z2
      go_enter Tryd.func32, Tryd.ntmps32
      go_wp2_with fail
      refine (i1 w).mono ?_
      rintro e w2 ⟨rfl, rfl⟩
      go_wp2_with fail
      refine (i2 w).mono ?_
      rintro e w2 ⟨rfl, rfl⟩
      go_wp2_with fail
      go_ret
      exact ⟨rfl, rfl⟩
end Go.Proofs.YthbfnppgaaeilaaDoor
