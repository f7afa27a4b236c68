/- notice: Itoa of any int, the document's Digits, Name, Subs. -/
import Derived.Test.YtfnclmacodchfaaDoorNoL
import Derived.Test.YtfnclmacodchfaaDoorNoD
import Derived.Lib.AppendIntMem
import Derived.Lib.ItoaLen
namespace Go.Proofs.YtfnclmacodchfaaDoor
set_option linter.unusedVariables false
open Go Go.RowKit

theorem gPow : Tryd.prog.globalNamed "internal/strconv.uint64pow10" = some 1 := by kernel_rfl
/-- the table of powers reads, whatever is done from here on. -/
def Pow (w : World) : Prop := ∀ w', Below w.heap.size w w' → Lib.TabIs Tryd.prog w' "internal/strconv.uint64pow10" .u64 Lib.pow10Tab
theorem Pow.below {w w' : World} (h : Pow w) (hb : Below w.heap.size w w') : Pow w' := fun w2 h2 => h w2 (hb.trans (h2.mono hb.size))
theorem Pow.here {w : World} (h : Pow w) : Lib.TabIs Tryd.prog w "internal/strconv.uint64pow10" .u64 Lib.pow10Tab := h w (Below.refl _ _)
theorem pow_of {W : World} (h : laidMetH Tryd.prog laidL W) : Pow W := by
  rw [MakeChecks.laidMetH_plain _ _ _ (by kernel_rfl)] at h
  obtain ⟨g, t, cs, fuel, p, hg, ht, hv, hd⟩ := Lib.laidMet.reads h (n := "internal/strconv.uint64pow10") (d := Rows.laid_internal_strconv_uint64pow10) (by simp [laidL])
  have e : (Tryd.prog.globals[1]?).map (·.type) = some 58 := by kernel_rfl
  obtain rfl := Option.some.inj (gPow.symm.trans hg)
  obtain rfl := Option.some.inj (e.symm.trans ht)
  have ed : (Rows.laid_internal_strconv_uint64pow10 : DataW Unit) = Lib.tabData .u64 Lib.pow10Tab := rfl
  rw [ed] at hd
  have hc := Lib.cells_of_tab Tryd.underlying58 Tryd.underlying52 (by kernel_rfl) (by kernel_rfl) hd
  exact Lib.tabBelow_of_tabIs (by unfold Lib.TabIs; rw [hv, ← hc])
theorem itoa_any (w : World) (hP : Pow w) (n : Int) (h0 : -9223372036854775808 ≤ n) (h1 : n ≤ 9223372036854775807) :
    Calls Tryd.prog 20 #[.int .i64 n] w fun e w' => e = .returned (.string (strB (Lib.itoa n))) ∧ Below w.heap.size w w' := by
  refine (Any.strconv_Itoa Tryd.itoaL n h0 h1 w hP.here).mono ?_
  rintro e w' ⟨rfl, k, os, rfl⟩
  exact ⟨rfl, Lib.below_grow _ w (Nat.le_refl _) k os⟩
theorem strB_cat (a b : List UInt8) : strB a ++ strB b = strB (a ++ b) := by
  apply ByteArray.ext
  simp [strB]
theorem strB_size (l : List UInt8) : (strB l).size = l.length := by
  show (strB l).data.size = _
  simp [strB]
theorem strB_fit (a b : List UInt8) (h : a.length + b.length ≤ 9223372036854775807) : ¬ (9223372036854775807 < (strB a).size + (strB b).size) := by
  rw [strB_size, strB_size]; omega
theorem str32 : (⟨#[32]⟩ : ByteArray) = strB [32] := rfl
set_option maxRecDepth 100000 in
set_option maxHeartbeats 4000000 in
theorem refDigits_any (n : Nat) : n < 9223372036854775808 → ∀ w : World, Calls Tryd.prog 22 #[.int .i64 (n : Int)] w fun e w' => e = .returned (.string (strB (Lib.decDigits n))) ∧ w = w' := by
  induction n using Nat.strongRecOn with
  | _ n ih =>
    intro hn w
    by_cases h : n < 10
    · rw [Lib.decDigits, dif_pos h]
      have hc : n = 0 ∨ n = 1 ∨ n = 2 ∨ n = 3 ∨ n = 4 ∨ n = 5 ∨ n = 6 ∨ n = 7 ∨ n = 8 ∨ n = 9 := by omega
      clear ih h hn
      rcases hc with rfl | rfl | rfl | rfl | rfl | rfl | rfl | rfl | rfl | rfl <;>
      · go_enter Tryd.func22, Tryd.ntmps22
        go_wp2_with fail
        go_ret
        exact ⟨rfl, rfl⟩
    · rw [Lib.decDigits, dif_neg h]
      have k1 : ¬ ((n : Int) < 10) := by omega
      have i1 := ih (n / 10) (by omega) (by omega)
      have i2 := ih (n % 10) (by omega) (by omega)
      have e2 : Lib.decDigits (n % 10) = [UInt8.ofNat (48 + n % 10)] := by rw [Lib.decDigits, dif_pos (by omega)]
      rw [← e2]
      clear ih e2
      have z1 : (Lib.decDigits (n / 10)).length ≤ 20 := by rw [Lib.decDigits_length]; exact Lib.nDigits_le20 _ (by omega)
      have z2 : (Lib.decDigits (n % 10)).length ≤ 20 := by rw [Lib.decDigits_length]; exact Lib.nDigits_le20 _ (by omega)
      rw [show ((n / 10 : Nat) : Int) = (n : Int) / 10 by omega] at i1
      rw [show ((n % 10 : Nat) : Int) = (n : Int) % 10 by omega] at i2
      generalize Lib.decDigits (n / 10) = L1 at *
      generalize Lib.decDigits (n % 10) = L2 at *
      have hs := strB_fit L1 L2 (by omega)
      clear z1 z2
      go_enter Tryd.func22, Tryd.ntmps22
      go_wp2_with fail
      refine (i1 w).mono ?_
      rintro e w2 ⟨rfl, rfl⟩
      go_wp2_with fail
      refine (i2 w).mono ?_
      rintro e w2 ⟨rfl, rfl⟩
      go_wp2_with fail
      go_ret
      exact ⟨by rw [strB_cat]; rfl, rfl⟩
set_option maxRecDepth 100000 in
set_option maxHeartbeats 4000000 in
theorem refNoName_any (w : World) (cd : Int) : Calls Tryd.prog 15 #[.int .i64 cd] w fun e w' => e = .returned (.string (strB (nmB (idN cd)))) ∧ Below w.heap.size w w' := by
  by_cases hc : 1 ≤ cd ∧ cd ≤ 6
  · have hc : cd = 1 ∨ cd = 2 ∨ cd = 3 ∨ cd = 4 ∨ cd = 5 ∨ cd = 6 := by omega
    rcases hc with rfl | rfl | rfl | rfl | rfl | rfl
    · have hI : ∀ w, (Instr.index 42 (.agg #[.string ⟨#[]⟩, .string ⟨#[104, 101, 97, 100, 101, 114]⟩, .string ⟨#[111, 112, 101, 110]⟩, .string ⟨#[117, 112, 100, 97, 116, 101]⟩, .string ⟨#[104, 111, 108, 100]⟩, .string ⟨#[102, 115, 109]⟩, .string ⟨#[99, 101, 97, 115, 101]⟩]) (.int .i64 1)).run Tryd.prog w = .ok (.string ⟨#[104, 101, 97, 100, 101, 114]⟩) w := fun w => by kernel_rfl
      go_enter Tryd.func15, Tryd.ntmps15
      go_wp2_with fail
      go_ret
      exact ⟨rfl, Below.refl _ _⟩
    · have hI : ∀ w, (Instr.index 42 (.agg #[.string ⟨#[]⟩, .string ⟨#[104, 101, 97, 100, 101, 114]⟩, .string ⟨#[111, 112, 101, 110]⟩, .string ⟨#[117, 112, 100, 97, 116, 101]⟩, .string ⟨#[104, 111, 108, 100]⟩, .string ⟨#[102, 115, 109]⟩, .string ⟨#[99, 101, 97, 115, 101]⟩]) (.int .i64 2)).run Tryd.prog w = .ok (.string ⟨#[111, 112, 101, 110]⟩) w := fun w => by kernel_rfl
      go_enter Tryd.func15, Tryd.ntmps15
      go_wp2_with fail
      go_ret
      exact ⟨rfl, Below.refl _ _⟩
    · have hI : ∀ w, (Instr.index 42 (.agg #[.string ⟨#[]⟩, .string ⟨#[104, 101, 97, 100, 101, 114]⟩, .string ⟨#[111, 112, 101, 110]⟩, .string ⟨#[117, 112, 100, 97, 116, 101]⟩, .string ⟨#[104, 111, 108, 100]⟩, .string ⟨#[102, 115, 109]⟩, .string ⟨#[99, 101, 97, 115, 101]⟩]) (.int .i64 3)).run Tryd.prog w = .ok (.string ⟨#[117, 112, 100, 97, 116, 101]⟩) w := fun w => by kernel_rfl
      go_enter Tryd.func15, Tryd.ntmps15
      go_wp2_with fail
      go_ret
      exact ⟨rfl, Below.refl _ _⟩
    · have hI : ∀ w, (Instr.index 42 (.agg #[.string ⟨#[]⟩, .string ⟨#[104, 101, 97, 100, 101, 114]⟩, .string ⟨#[111, 112, 101, 110]⟩, .string ⟨#[117, 112, 100, 97, 116, 101]⟩, .string ⟨#[104, 111, 108, 100]⟩, .string ⟨#[102, 115, 109]⟩, .string ⟨#[99, 101, 97, 115, 101]⟩]) (.int .i64 4)).run Tryd.prog w = .ok (.string ⟨#[104, 111, 108, 100]⟩) w := fun w => by kernel_rfl
      go_enter Tryd.func15, Tryd.ntmps15
      go_wp2_with fail
      go_ret
      exact ⟨rfl, Below.refl _ _⟩
    · have hI : ∀ w, (Instr.index 42 (.agg #[.string ⟨#[]⟩, .string ⟨#[104, 101, 97, 100, 101, 114]⟩, .string ⟨#[111, 112, 101, 110]⟩, .string ⟨#[117, 112, 100, 97, 116, 101]⟩, .string ⟨#[104, 111, 108, 100]⟩, .string ⟨#[102, 115, 109]⟩, .string ⟨#[99, 101, 97, 115, 101]⟩]) (.int .i64 5)).run Tryd.prog w = .ok (.string ⟨#[102, 115, 109]⟩) w := fun w => by kernel_rfl
      go_enter Tryd.func15, Tryd.ntmps15
      go_wp2_with fail
      go_ret
      exact ⟨rfl, Below.refl _ _⟩
    · have hI : ∀ w, (Instr.index 42 (.agg #[.string ⟨#[]⟩, .string ⟨#[104, 101, 97, 100, 101, 114]⟩, .string ⟨#[111, 112, 101, 110]⟩, .string ⟨#[117, 112, 100, 97, 116, 101]⟩, .string ⟨#[104, 111, 108, 100]⟩, .string ⟨#[102, 115, 109]⟩, .string ⟨#[99, 101, 97, 115, 101]⟩]) (.int .i64 6)).run Tryd.prog w = .ok (.string ⟨#[99, 101, 97, 115, 101]⟩) w := fun w => by kernel_rfl
      go_enter Tryd.func15, Tryd.ntmps15
      go_wp2_with fail
      go_ret
      exact ⟨rfl, Below.refl _ _⟩
  · have e9 : idN cd = 0 := by unfold idN; split <;> omega
    rw [e9]
    replace e9 := Lib.hid e9
    by_cases h1 : cd < 1
    · clear hc
      go_enter Tryd.func15, Tryd.ntmps15
      go_wp2_with fail
      go_ret
      exact ⟨rfl, Below.refl _ _⟩
    · have h2 : 6 < cd := by omega
      have h3 : ¬ (cd < 1) := h1
      clear hc
      go_enter Tryd.func15, Tryd.ntmps15
      go_wp2_with fail
      go_ret
      exact ⟨rfl, Below.refl _ _⟩
set_option maxRecDepth 100000 in
set_option maxHeartbeats 4000000 in
theorem refNoSubs_any (w : World) (cd : Int) : Calls Tryd.prog 17 #[.int .i64 cd] w fun e w' => e = .returned (.int .i64 (nmS (idN cd))) ∧ Below w.heap.size w w' := by
  by_cases hc : 1 ≤ cd ∧ cd ≤ 6
  · have hc : cd = 1 ∨ cd = 2 ∨ cd = 3 ∨ cd = 4 ∨ cd = 5 ∨ cd = 6 := by omega
    rcases hc with rfl | rfl | rfl | rfl | rfl | rfl
    · have hI : ∀ w, (Instr.index 43 (.agg #[.int .i64 0, .int .i64 3, .int .i64 6, .int .i64 11, .int .i64 0, .int .i64 0, .int .i64 8]) (.int .i64 1)).run Tryd.prog w = .ok (.int .i64 3) w := fun w => by kernel_rfl
      go_enter Tryd.func17, Tryd.ntmps17
      go_wp2_with fail
      go_ret
      exact ⟨rfl, Below.refl _ _⟩
    · have hI : ∀ w, (Instr.index 43 (.agg #[.int .i64 0, .int .i64 3, .int .i64 6, .int .i64 11, .int .i64 0, .int .i64 0, .int .i64 8]) (.int .i64 2)).run Tryd.prog w = .ok (.int .i64 6) w := fun w => by kernel_rfl
      go_enter Tryd.func17, Tryd.ntmps17
      go_wp2_with fail
      go_ret
      exact ⟨rfl, Below.refl _ _⟩
    · have hI : ∀ w, (Instr.index 43 (.agg #[.int .i64 0, .int .i64 3, .int .i64 6, .int .i64 11, .int .i64 0, .int .i64 0, .int .i64 8]) (.int .i64 3)).run Tryd.prog w = .ok (.int .i64 11) w := fun w => by kernel_rfl
      go_enter Tryd.func17, Tryd.ntmps17
      go_wp2_with fail
      go_ret
      exact ⟨rfl, Below.refl _ _⟩
    · have hI : ∀ w, (Instr.index 43 (.agg #[.int .i64 0, .int .i64 3, .int .i64 6, .int .i64 11, .int .i64 0, .int .i64 0, .int .i64 8]) (.int .i64 4)).run Tryd.prog w = .ok (.int .i64 0) w := fun w => by kernel_rfl
      go_enter Tryd.func17, Tryd.ntmps17
      go_wp2_with fail
      go_ret
      exact ⟨rfl, Below.refl _ _⟩
    · have hI : ∀ w, (Instr.index 43 (.agg #[.int .i64 0, .int .i64 3, .int .i64 6, .int .i64 11, .int .i64 0, .int .i64 0, .int .i64 8]) (.int .i64 5)).run Tryd.prog w = .ok (.int .i64 0) w := fun w => by kernel_rfl
      go_enter Tryd.func17, Tryd.ntmps17
      go_wp2_with fail
      go_ret
      exact ⟨rfl, Below.refl _ _⟩
    · have hI : ∀ w, (Instr.index 43 (.agg #[.int .i64 0, .int .i64 3, .int .i64 6, .int .i64 11, .int .i64 0, .int .i64 0, .int .i64 8]) (.int .i64 6)).run Tryd.prog w = .ok (.int .i64 8) w := fun w => by kernel_rfl
      go_enter Tryd.func17, Tryd.ntmps17
      go_wp2_with fail
      go_ret
      exact ⟨rfl, Below.refl _ _⟩
  · have e9 : idN cd = 0 := by unfold idN; split <;> omega
    rw [e9]
    replace e9 := Lib.hid e9
    by_cases h1 : cd < 1
    · clear hc
      go_enter Tryd.func17, Tryd.ntmps17
      go_wp2_with fail
      go_ret
      exact ⟨rfl, Below.refl _ _⟩
    · have h2 : 6 < cd := by omega
      have h3 : ¬ (cd < 1) := h1
      clear hc
      go_enter Tryd.func17, Tryd.ntmps17
      go_wp2_with fail
      go_ret
      exact ⟨rfl, Below.refl _ _⟩
end Go.Proofs.YtfnclmacodchfaaDoor
