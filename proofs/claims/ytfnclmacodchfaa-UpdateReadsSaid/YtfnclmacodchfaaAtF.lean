/- attr: Hop, Good. -/
import Derived.Test.YtfnclmacodchfaaAtD
namespace Go.Proofs.Ytfnclmacodchfaa
set_option linter.unusedVariables false
open Go.RowKit

def hopV (h : Int) : Bool := (h != 0) && (h != 4294967295) && (h / 16777216 != 127) && (h / 536870912 != 7)
theorem shr24 (x : Int) (h : 0 ≤ x) (h1 : x ≤ 4294967295) : x / 2 ^ 24 = x / 16777216 := rfl
theorem hop_any (h : Int) (w : World) (h0 : 0 ≤ h) (h1 : h ≤ 4294967295) : Calls Try.prog 56 #[.int .u32 h] w fun e w' => e = .returned (.bool (hopV h)) ∧ w = w' := by
  go_enter Try.func56, Try.ntmps56
  go_wp2_with fail
  all_goals go_ret
  all_goals (refine ⟨ret_bool ?_, rfl⟩; simp_all [hopV])
def asB (z : Int) : Bool := decide (1 ≤ z) && decide (z ≤ 65535)
theorem isAs_any (z : Int) (w : World) : Calls Try.prog 59 #[.int .i64 z] w fun e w' => e = .returned (.bool (asB z)) ∧ w = w' := by
  go_enter Try.func59, Try.ntmps59
  go_wp2_with fail
  all_goals go_ret
  all_goals (refine ⟨ret_bool ?_, rfl⟩; simp_all [asB]; try omega)
theorem notAs_any (z : Int) (w : World) : Calls Try.prog 58 #[.int .i64 z] w fun e w' => e = .returned (.bool (!asB z)) ∧ w = w' := by
  go_enter Try.func58, Try.ntmps58
  go_wp2_with fail
  refine (isAs_any z w).mono ?_
  rintro e w' ⟨rfl, rfl⟩
  go_wp2_with fail
  go_ret
  exact ⟨rfl, rfl⟩
set_option maxHeartbeats 800000 in
theorem indexAs_any (w : World) (A : Option Addr) (n c : Nat) (zs : List Int) (h : Nums .i64 w w.heap.size A n zs) (hn : n ≤ 100000) :
    Calls Try.prog 91 #[.slice A n c, .func (.func 58) #[] #[]] w fun e w' => ∃ z, e = .returned (.int .i64 z) ∧ decide (0 ≤ z) = !zs.all asB ∧ w = w' := by
  have hl := Lib.hid h.1
  go_enter Try.func91, Try.ntmps91
  go_wp2_with fail
  go_loop [8] (fun i => ∃ k : Nat, k ≤ n ∧ i = .int .i64 (k : Int) ∧ (zs.take k).all asB = true) (fun i => n - (intOf i).toNat)
  case atStart => exact ⟨0, Nat.zero_le _, rfl, rfl⟩
  case round =>
    obtain ⟨k, hk, rfl, hall⟩ := hrel
    by_cases hlt : k < n
    · obtain ⟨b, off, rfl, hb, hc⟩ := h.2.2 (by omega)
      have hck := hc k hlt
      have hki : (k : Int) < n := by omega
      have hzk : zs[k]? = some (nAt zs k) := by rw [nAt_get zs k (by rw [hl.out]; exact hlt), List.getElem?_eq_getElem]
      cases hz : asB (nAt zs k)
      · go_wp2_with fail
        refine (notAs_any _ _).mono ?_
        rintro e w' ⟨rfl, rfl⟩
        rw [hz]
        go_wp2_with fail
        go_ret
        refine ⟨_, rfl, ?_, rfl⟩
        have : zs.all asB = false := by
          rw [Bool.eq_false_iff]
          intro ha
          have := List.all_eq_true.1 ha _ (List.mem_of_getElem? hzk)
          rw [hz] at this; cases this
        rw [this]; simp
      · go_wp2_with fail
        refine (notAs_any _ _).mono ?_
        rintro e w' ⟨rfl, rfl⟩
        rw [hz]
        go_wp2_with fail
        go_round
        case rel =>
          refine ⟨k + 1, by omega, by go_num, ?_⟩
          rw [List.take_add_one, hzk]
          simp [hz, hall]
        case measure => simp [intOf]; omega
    · obtain rfl : n = k := by omega
      rw [List.take_of_length_le (by rw [hl.out]; omega)] at hall
      replace hall := Lib.hid hall
      go_wp2_with fail
      go_ret
      exact ⟨_, rfl, (by rw [hall.out]; decide), rfl⟩
theorem containsAs_any (w : World) (A : Option Addr) (n c : Nat) (zs : List Int) (h : Nums .i64 w w.heap.size A n zs) (hn : n ≤ 100000) :
    Calls Try.prog 57 #[.slice A n c, .func (.func 58) #[] #[]] w fun e w' => e = .returned (.bool (!zs.all asB)) ∧ w = w' := by
  go_enter Try.func57, Try.ntmps57
  go_wp2_with fail
  refine (indexAs_any w A n c zs h hn).mono ?_
  rintro e w' ⟨z, rfl, hz, rfl⟩
  go_wp2_with fail
  go_ret
  exact ⟨rfl, rfl⟩
def medB (m : Int) (b : Bool) : Bool := if b then decide (0 ≤ m) && decide (m ≤ 4294967295) else m == 0
def goodA (o : Int) (zs : List Int) (h m : Int) (b : Bool) : Bool := (decide (0 ≤ o) && decide (o ≤ 2)) && hopV h && decide (zs.length ≤ 16) && zs.all asB && medB m b
set_option maxHeartbeats 4000000 in
theorem attrGood_any (w : World) (o : Int) (A : Option Addr) (n c : Nat) (zs : List Int) (h m : Int) (b : Bool) (hN : Nums .i64 w w.heap.size A n zs) (h0 : 0 ≤ h) (h1 : h ≤ 4294967295) :
    Calls Try.prog 24 #[.agg #[.int .i64 o, .slice A n c, .int .u32 h, .int .i64 m, .bool b]] w fun e w' => e = .returned (.bool (goodA o zs h m b)) ∧ Below w.heap.size w w' := by
  have hl := hN.1
  have hB := (Below.refl w.heap.size w).alloc (Nat.le_refl _) (.cells #[.int .i64 o, .slice A n c, .int .u32 h, .int .i64 m, .bool b] 26)
  have hN2 := (hN.below hB).more hB.size
  go_enter Try.func24, Try.ntmps24
  by_cases o1 : o < 0
  · have e : goodA o zs h m b = false := by unfold goodA; simp; omega
    have d1 : decide (o < 0) = true := by simpa using o1
    rw [e]
    clear e
    go_wp2_with fail
    go_ret
    exact ⟨rfl, hB⟩
  have d1 : decide (o < 0) = false := by simpa using o1
  by_cases o2 : 2 < o
  · have e : goodA o zs h m b = false := by unfold goodA; simp; omega
    have d2 : decide (2 < o) = true := by simpa using o2
    rw [e]
    clear e
    go_wp2_with fail
    go_ret
    exact ⟨rfl, hB⟩
  have d2 : decide (2 < o) = false := by simpa using o2
  have eo : (decide (0 ≤ o) && decide (o ≤ 2)) = true := by simp; omega
  replace eo := Lib.hid eo
  replace hl := Lib.hid hl
  clear o1 o2
  go_wp2_with fail
  refine (hop_any h _ h0 h1).mono ?_
  rintro e w' ⟨rfl, rfl⟩
  cases hh : hopV h
  · go_wp2_with fail
    go_ret
    exact ⟨ret_bool (by simp [goodA, hh]), hB⟩
  by_cases n16 : 16 < n
  · have d3 : decide ((16 : Int) < n) = true := by simp; omega
    have e : ¬ zs.length ≤ 16 := by have := hl.out; omega
    replace e := Lib.hid e
    go_wp2_with fail
    go_ret
    exact ⟨ret_bool (by simp [goodA, e.out]), hB⟩
  have d3 : decide ((16 : Int) < n) = false := by simp; omega
  have e16 : zs.length ≤ 16 := by have := hl.out; omega
  replace e16 := Lib.hid e16
  go_wp2_with fail
  refine (containsAs_any _ A n c zs hN2 (by omega)).mono ?_
  rintro e w' ⟨rfl, rfl⟩
  cases hp : zs.all asB
  · go_wp2_with fail
    go_ret
    exact ⟨ret_bool (by unfold goodA; rw [hp]; simp), hB⟩
  have hall : goodA o zs h m b = medB m b := by unfold goodA; rw [eo.out, hh, hp]; simp [e16.out]
  replace hall := Lib.hid hall
  cases b
  · go_wp2_with fail
    go_ret
    exact ⟨ret_bool (by rw [hall.out]; rfl), hB⟩
  · by_cases m0 : m < 0
    · have d4 : decide (0 ≤ m) = false := by simp; omega
      go_wp2_with fail
      go_ret
      exact ⟨ret_bool (by rw [hall.out]; unfold medB; rw [d4]; rfl), hB⟩
    · have d4 : decide (0 ≤ m) = true := by simp; omega
      go_wp2_with fail
      go_ret
      exact ⟨ret_bool (by rw [hall.out]; unfold medB; rw [d4]; rfl), hB⟩
end Go.Proofs.Ytfnclmacodchfaa
