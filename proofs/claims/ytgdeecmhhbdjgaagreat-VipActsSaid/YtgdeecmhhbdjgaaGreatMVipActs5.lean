import Derived.Test.YtgdeecmhhbdjgaaGreatRows
import Derived.Test.YtgdeecmhhbdjgaaGreatMVipActs1
/- damp: Decay, Good, New, made. -/
namespace Go.Proofs.YtgdeecmhhbdjgaaGreat.dm
set_option maxRecDepth 100000
set_option linter.unusedVariables false
open Go.RowKit

def decay (p h : Int) : Int := if p < 1 ∨ h < 1 then 0 else p - p / h / 2 - 1

theorem half_step (p h : Int) (hp : 1 ≤ p) (hh : 1 ≤ h) : 0 ≤ p / h ∧ p / h ≤ p := by
  refine ⟨Int.ediv_nonneg (by omega) (by omega), ?_⟩
  exact Int.ediv_le_self _ (by omega)
theorem decay_lo (p h : Int) : 0 ≤ decay p h := by
  unfold decay
  split
  · exact Int.le_refl _
  · have := half_step p h (by omega) (by omega); omega
theorem decay_le (p h : Int) (hp : 0 ≤ p) : decay p h ≤ p := by
  unfold decay
  split
  · exact hp
  · have := half_step p h (by omega) (by omega); omega
set_option maxHeartbeats 400000 in
theorem decay_any (p h : Int) (w : World) (p1 : -9223372036854775808 ≤ p) (p2 : p ≤ 9223372036854775807) :
    Calls Tryz.prog 175 #[.int .i64 p, .int .i64 h] w fun e w' => e = .returned (.int .i64 (decay p h)) ∧ w = w' := by
  by_cases c1 : p < 1
  · go_enter Tryz.func175, Tryz.ntmps175
    go_wp2
    go_ret
    exact ⟨by rw [show decay p h = 0 from if_pos (.inl c1)]; rfl, rfl⟩
  · by_cases c2 : h < 1
    · go_enter Tryz.func175, Tryz.ntmps175
      go_wp2
      go_ret
      exact ⟨by rw [show decay p h = 0 from if_pos (.inr c2)]; rfl, rfl⟩
    · obtain ⟨b1, b2⟩ := half_step p h (by omega) (by omega)
      have HE := Lib.hid (show decay p h = p - p / h / 2 - 1 from if_neg (by omega))
      go_enter Tryz.func175, Tryz.ntmps175
      go_wp2
      go_ret
      exact ⟨by rw [HE.out]; rfl, rfl⟩

set_option maxHeartbeats 400000 in
theorem refDecay_any (p h : Int) (w : World) (p1 : -9223372036854775808 ≤ p) (p2 : p ≤ 9223372036854775807) :
    Calls Tryz.prog 149 #[.int .i64 p, .int .i64 h] w fun e w' => e = .returned (.int .i64 (decay p h)) ∧ w = w' := by
  by_cases c1 : p < 1
  · go_enter Tryz.func149, Tryz.ntmps149
    go_wp2
    go_ret
    exact ⟨by rw [show decay p h = 0 from if_pos (.inl c1)]; rfl, rfl⟩
  · by_cases c2 : h < 1
    · go_enter Tryz.func149, Tryz.ntmps149
      go_wp2
      go_ret
      exact ⟨by rw [show decay p h = 0 from if_pos (.inr c2)]; rfl, rfl⟩
    · obtain ⟨b1, b2⟩ := half_step p h (by omega) (by omega)
      have HE := Lib.hid (show decay p h = p - p / h / 2 - 1 from if_neg (by omega))
      by_cases c3 : h ≤ p / 2
      · have e1 : p / h / 2 = p / (2 * h) := by rw [Int.ediv_ediv_of_nonneg (by omega), Int.mul_comm]
        have b3 : 0 ≤ p / (2 * h) := Int.ediv_nonneg (by omega) (by omega)
        have b4 : p / (2 * h) ≤ p := Int.ediv_le_self _ (by omega)
        rw [e1] at HE
        clear e1
        go_enter Tryz.func149, Tryz.ntmps149
        go_wp2
        go_ret
        exact ⟨by rw [HE.out]; rfl, rfl⟩
      · have e1 : p / h / 2 = 0 := by
          rw [Int.ediv_ediv_of_nonneg (by omega), Int.mul_comm]
          exact Int.ediv_eq_zero_of_lt (by omega) (by omega)
        rw [e1] at HE
        clear e1
        go_enter Tryz.func149, Tryz.ntmps149
        go_wp2
        go_ret
        exact ⟨by rw [HE.out, Int.sub_zero]; rfl, rfl⟩

def goodR (F S R C H : Int) : Bool := decide (1 ≤ F ∧ F ≤ 100000 ∧ 1 ≤ S ∧ S ≤ 1000000 ∧ 0 ≤ R ∧ R < S ∧ S ≤ C ∧ C ≤ 1000000 ∧ 1 ≤ H ∧ H ≤ 10000)

set_option maxHeartbeats 400000 in
theorem in_yes (n lo hi : Int) (w : World) (h1 : lo ≤ n) (h2 : n ≤ hi) :
    Calls Tryz.prog 202 #[.int .i64 n, .int .i64 lo, .int .i64 hi] w fun e w' => e = .returned (.bool true) ∧ w = w' := by
  go_enter Tryz.func202, Tryz.ntmps202
  go_wp2
  go_ret
  exact ⟨rfl, rfl⟩
set_option maxHeartbeats 400000 in
theorem in_no (n lo hi : Int) (w : World) (h : n < lo ∨ hi < n) :
    Calls Tryz.prog 202 #[.int .i64 n, .int .i64 lo, .int .i64 hi] w fun e w' => e = .returned (.bool false) ∧ w = w' := by
  by_cases c : n < lo
  · clear h
    go_enter Tryz.func202, Tryz.ntmps202
    go_wp2
    go_ret
    exact ⟨rfl, rfl⟩
  · have c2 : hi < n := by omega
    clear h
    go_enter Tryz.func202, Tryz.ntmps202
    go_wp2
    go_ret
    exact ⟨ret_bool (by simp; omega), rfl⟩

set_option maxHeartbeats 400000 in
theorem good_yes (F S R C H : Int) (w : World) (h : goodR F S R C H = true) :
    Calls Tryz.prog 139 #[.agg #[.int .i64 F, .int .i64 S, .int .i64 R, .int .i64 C, .int .i64 H]] w fun e w' => e = .returned (.bool true) ∧ Below w.heap.size w w' := by
  obtain ⟨h1, h2, h3, h4, h5, h6, h7, h8, h9, h10⟩ := of_decide_eq_true h
  clear h
  go_enter Tryz.func139, Tryz.ntmps139
  go_wp2_with (go_at_call 202; refine (in_yes _ _ _ _ (by omega) (by omega)).mono ?_; rintro e w' ⟨rfl, rfl⟩)
  go_ret
  exact ⟨rfl, (Below.refl _ _).alloc (Nat.le_refl _) _⟩
set_option maxHeartbeats 1000000 in
theorem good_no (F S R C H : Int) (w : World) (h : goodR F S R C H = false) :
    Calls Tryz.prog 139 #[.agg #[.int .i64 F, .int .i64 S, .int .i64 R, .int .i64 C, .int .i64 H]] w fun e w' => e = .returned (.bool false) ∧ Below w.heap.size w w' := by
  have h' := of_decide_eq_false h
  clear h
  by_cases c1 : 1 ≤ F ∧ F ≤ 100000
  · by_cases c2 : 1 ≤ S ∧ S ≤ 1000000
    · by_cases c3 : 0 ≤ R ∧ R ≤ S - 1
      · by_cases c4 : S ≤ C ∧ C ≤ 1000000
        · have c5 : H < 1 ∨ 10000 < H := by omega
          have C5 := Lib.hid c5
          clear h' c5
          obtain ⟨a1, a2⟩ := c1
          obtain ⟨b1, b2⟩ := c2
          obtain ⟨d1, d2⟩ := c3
          obtain ⟨e1, e2⟩ := c4
          go_enter Tryz.func139, Tryz.ntmps139
          go_wp2_with (first
            | (go_at_call 202; refine (in_yes _ _ _ _ (by omega) (by omega)).mono ?_; rintro e w' ⟨rfl, rfl⟩)
            | (go_at_call 202; refine (in_no _ _ _ _ C5.out).mono ?_; rintro e w' ⟨rfl, rfl⟩))
          go_ret
          exact ⟨rfl, (Below.refl _ _).alloc (Nat.le_refl _) _⟩
        · have c5 : C < S ∨ 1000000 < C := by omega
          have C5 := Lib.hid c5
          clear h' c5 c4
          obtain ⟨a1, a2⟩ := c1
          obtain ⟨b1, b2⟩ := c2
          obtain ⟨d1, d2⟩ := c3
          go_enter Tryz.func139, Tryz.ntmps139
          go_wp2_with (first
            | (go_at_call 202; refine (in_yes _ _ _ _ (by omega) (by omega)).mono ?_; rintro e w' ⟨rfl, rfl⟩)
            | (go_at_call 202; refine (in_no _ _ _ _ C5.out).mono ?_; rintro e w' ⟨rfl, rfl⟩))
          go_ret
          exact ⟨rfl, (Below.refl _ _).alloc (Nat.le_refl _) _⟩
      · have c5 : R < 0 ∨ S - 1 < R := by omega
        have C5 := Lib.hid c5
        clear h' c5 c3
        obtain ⟨a1, a2⟩ := c1
        obtain ⟨b1, b2⟩ := c2
        go_enter Tryz.func139, Tryz.ntmps139
        go_wp2_with (first
          | (go_at_call 202; refine (in_yes _ _ _ _ (by omega) (by omega)).mono ?_; rintro e w' ⟨rfl, rfl⟩)
          | (go_at_call 202; refine (in_no _ _ _ _ C5.out).mono ?_; rintro e w' ⟨rfl, rfl⟩))
        go_ret
        exact ⟨rfl, (Below.refl _ _).alloc (Nat.le_refl _) _⟩
    · have c5 : S < 1 ∨ 1000000 < S := by omega
      have C5 := Lib.hid c5
      clear h' c5 c2
      obtain ⟨a1, a2⟩ := c1
      go_enter Tryz.func139, Tryz.ntmps139
      go_wp2_with (first
        | (go_at_call 202; refine (in_yes _ _ _ _ (by omega) (by omega)).mono ?_; rintro e w' ⟨rfl, rfl⟩)
        | (go_at_call 202; refine (in_no _ _ _ _ C5.out).mono ?_; rintro e w' ⟨rfl, rfl⟩))
      go_ret
      exact ⟨rfl, (Below.refl _ _).alloc (Nat.le_refl _) _⟩
  · have c5 : F < 1 ∨ 100000 < F := by omega
    have C5 := Lib.hid c5
    clear h' c5 c1
    go_enter Tryz.func139, Tryz.ntmps139
    go_wp2_with (go_at_call 202; refine (in_no _ _ _ _ C5.out).mono ?_; rintro e w' ⟨rfl, rfl⟩)
    go_ret
    exact ⟨rfl, (Below.refl _ _).alloc (Nat.le_refl _) _⟩

def dampCs (F S R C H p : Int) (h : Bool) : Array Value := #[.int .i64 F, .int .i64 S, .int .i64 R, .int .i64 C, .int .i64 H, .int .i64 p, .bool h]

set_option maxHeartbeats 400000 in
theorem made_yes (F S R C H p : Int) (h : Bool) (g : Nat) (w : World) (hF : 1 ≤ F) (hb : Blk w g 223 (dampCs F S R C H p h)) :
    Calls Tryz.prog 173 #[.pointer (some ⟨g, 0, none⟩)] w fun e w' => e = .returned (.bool true) ∧ w = w' := by
  have c0 := hb.cellv 0 (v := .int .i64 F) rfl
  have c1 := hb.cellv 1 (v := .int .i64 S) rfl
  have c2 := hb.cellv 2 (v := .int .i64 R) rfl
  have c3 := hb.cellv 3 (v := .int .i64 C) rfl
  have c4 := hb.cellv 4 (v := .int .i64 H) rfl
  clear hb
  go_enter Tryz.func173, Tryz.ntmps173
  go_wp2
  go_ret
  exact ⟨rfl, rfl⟩
end Go.Proofs.YtgdeecmhhbdjgaaGreat.dm

/- damp: rising, falling, to, and the methods. -/
namespace Go.Proofs.YtgdeecmhhbdjgaaGreat.dm
set_option maxRecDepth 100000
set_option linter.unusedVariables false
open Go.RowKit

def lowest (p C : Int) : Int := if p ≤ C then p else C
theorem lowest_lo (p C : Int) (h : p ≤ C) : lowest p C = p := if_pos h
theorem lowest_hi (p C : Int) (h : C < p) : lowest p C = C := if_neg (by omega)

theorem dampCs_p (F S R C H p q : Int) (h : Bool) : (dampCs F S R C H p h).setIfInBounds 5 (.int .i64 q) = dampCs F S R C H q h := rfl
theorem dampCs_h (F S R C H p : Int) (h k : Bool) : (dampCs F S R C H p h).setIfInBounds 6 (.bool k) = dampCs F S R C H p k := rfl

set_option maxHeartbeats 1000000 in
theorem rising_any (F S R C H p : Int) (h : Bool) (g : Nat) (w : World) (hb : Blk w g 223 (dampCs F S R C H p h)) :
    Calls Tryz.prog 178 #[.pointer (some ⟨g, 0, none⟩)] w fun e w' => e = .returned (.tuple #[]) ∧ Blk w' g 223 (dampCs F S R C H (lowest p C) (h || decide (S ≤ lowest p C))) ∧ w.grownBy w' (some g) := by
  have c3 := hb.cellv 3 (v := .int .i64 C) rfl
  have c5 := hb.cellv 5 (v := .int .i64 p) rfl
  have f5 := hb.frozen 5
  have hb1 : Blk (w.setCell ⟨g, 5, none⟩ (.int .i64 (lowest p C))).drew g 223 (dampCs F S R C H (lowest p C) h) := by
    rw [← dampCs_p F S R C H p]; exact (hb.set_ 5 _).drew
  have hg1 : w.grownBy (w.setCell ⟨g, 5, none⟩ (.int .i64 (lowest p C))).drew (some g) := grown_drew (grown_setCell (grown_refl _ _) (.inl rfl) _)
  clear hb
  have key : ∀ (q : Int) (w1 : World), Blk w1 g 223 (dampCs F S R C H q h) → w.grownBy w1 (some g) → q = lowest p C →
      Blk (w1.setCell ⟨g, 6, none⟩ (.bool (h || decide (S ≤ q)))).drew g 223 (dampCs F S R C H (lowest p C) (h || decide (S ≤ lowest p C))) ∧ w.grownBy (w1.setCell ⟨g, 6, none⟩ (.bool (h || decide (S ≤ q)))).drew (some g) := by
    rintro q w1 hk hg rfl
    exact ⟨by rw [← dampCs_h F S R C H (lowest p C) h]; exact (hk.set_ 6 _).drew, grown_drew (grown_setCell hg (.inl rfl) _)⟩
  have KEY := Lib.hid key
  clear key
  obtain ⟨q, hq⟩ : ∃ q, q = lowest p C := ⟨_, rfl⟩
  rw [← hq] at hb1 hg1
  have c6 := hb1.cellv 6 (v := .bool h) rfl
  have c1 := hb1.cellv 1 (v := .int .i64 S) rfl
  have c5' := hb1.cellv 5 (v := .int .i64 q) rfl
  have f6 := hb1.frozen 6
  clear c6 c1 c5' f6
  have HB1 := Lib.hid hb1
  have HG1 := Lib.hid hg1
  have HQ := Lib.hid hq
  clear hb1 hg1
  by_cases c : p ≤ C
  · rw [lowest_lo p C c] at hq
    subst hq
    go_enter Tryz.func178, Tryz.ntmps178
    go_wp2_with fail
    go_region
    go_wp2_with fail
    have hb1 := HB1.out
    have hg1 := HG1.out
    clear HB1 HG1 c3 c5 f5 c
    generalize (w.setCell ⟨g, 5, none⟩ (.int .i64 q)).drew = w1 at *
    have c6 := hb1.cellv 6 (v := .bool h) rfl
    have c1 := hb1.cellv 1 (v := .int .i64 S) rfl
    have c5 := hb1.cellv 5 (v := .int .i64 q) rfl
    have f6 := hb1.frozen 6
    have K := Lib.hid (KEY.out q w1 hb1 hg1 HQ.out)
    clear KEY hb1 hg1 HQ
    cases h with
    | true =>
      go_region
      go_wp2
      go_end0
      exact ⟨rfl, K.out.1, K.out.2⟩
    | false =>
      by_cases c2 : S ≤ q
      · have K' := K.out
        rw [show (false || decide (S ≤ q)) = true from by simp [c2]] at K'
        have K2 := Lib.hid K'
        clear K K'
        go_region
        go_wp2
        go_end0
        exact ⟨rfl, K2.out.1, K2.out.2⟩
      · have K' := K.out
        rw [show (false || decide (S ≤ q)) = false from by simp; omega] at K'
        have K2 := Lib.hid K'
        clear K K'
        go_region
        go_wp2
        go_end0
        exact ⟨rfl, K2.out.1, K2.out.2⟩
  · rw [lowest_hi p C (by omega)] at hq
    subst hq
    go_enter Tryz.func178, Tryz.ntmps178
    go_wp2_with fail
    go_region
    go_wp2_with fail
    have hb1 := HB1.out
    have hg1 := HG1.out
    clear HB1 HG1 c3 c5 f5 c
    generalize (w.setCell ⟨g, 5, none⟩ (.int .i64 q)).drew = w1 at *
    have c6 := hb1.cellv 6 (v := .bool h) rfl
    have c1 := hb1.cellv 1 (v := .int .i64 S) rfl
    have c5 := hb1.cellv 5 (v := .int .i64 q) rfl
    have f6 := hb1.frozen 6
    have K := Lib.hid (KEY.out q w1 hb1 hg1 HQ.out)
    clear KEY hb1 hg1 HQ
    cases h with
    | true =>
      go_region
      go_wp2
      go_end0
      exact ⟨rfl, K.out.1, K.out.2⟩
    | false =>
      by_cases c2 : S ≤ q
      · have K' := K.out
        rw [show (false || decide (S ≤ q)) = true from by simp [c2]] at K'
        have K2 := Lib.hid K'
        clear K K'
        go_region
        go_wp2
        go_end0
        exact ⟨rfl, K2.out.1, K2.out.2⟩
      · have K' := K.out
        rw [show (false || decide (S ≤ q)) = false from by simp; omega] at K'
        have K2 := Lib.hid K'
        clear K K'
        go_region
        go_wp2
        go_end0
        exact ⟨rfl, K2.out.1, K2.out.2⟩

set_option maxHeartbeats 1000000 in
theorem falling_any (F S R C H p : Int) (h : Bool) (g : Nat) (w : World) (hb : Blk w g 223 (dampCs F S R C H p h)) :
    Calls Tryz.prog 176 #[.pointer (some ⟨g, 0, none⟩)] w fun e w' => e = .returned (.tuple #[]) ∧ Blk w' g 223 (dampCs F S R C H p (h && decide (R < p))) ∧ w.grownBy w' (some g) := by
  have c2 := hb.cellv 2 (v := .int .i64 R) rfl
  have c5 := hb.cellv 5 (v := .int .i64 p) rfl
  have c6 := hb.cellv 6 (v := .bool h) rfl
  have f6 := hb.frozen 6
  have key : ∀ k : Bool, Blk (w.setCell ⟨g, 6, none⟩ (.bool k)).drew g 223 (dampCs F S R C H p k) ∧ w.grownBy (w.setCell ⟨g, 6, none⟩ (.bool k)).drew (some g) := fun k =>
    ⟨by rw [← dampCs_h F S R C H p h]; exact (hb.set_ 6 _).drew, grown_drew (grown_setCell (grown_refl _ _) (.inl rfl) _)⟩
  have K := Lib.hid key
  clear key hb
  cases h with
  | false =>
    go_enter Tryz.func176, Tryz.ntmps176
    go_region
    go_wp2
    go_end0
    exact ⟨rfl, (K.out false).1, (K.out false).2⟩
  | true =>
    by_cases c : R < p
    · have HE := Lib.hid (show (true && decide (R < p)) = true from by simp [c])
      go_enter Tryz.func176, Tryz.ntmps176
      go_region
      go_wp2
      go_end0
      exact ⟨rfl, by have := (K.out true).1; simpa [c] using this, (K.out true).2⟩
    · go_enter Tryz.func176, Tryz.ntmps176
      go_region
      go_wp2
      go_end0
      have c' : decide (R < p) = false := by simp; omega
      exact ⟨rfl, by have := (K.out false).1; rw [c']; exact this, (K.out false).2⟩
end Go.Proofs.YtgdeecmhhbdjgaaGreat.dm

/- Slices of rows of structs, cut. -/
namespace Go.Proofs.YtgdeecmhhbdjgaaGreat
set_option linter.unusedVariables false
open Go Go.RowKit

section
variable {α : Type} {R : RK α} {P : Program} {T : TypeId} {E : TypeId} {w : World} {S : Nat → Prop} {A : Option Addr} {n k : Nat} {l : List α}
theorem Seen.empty (w : World) (S : Nat → Prop) (A : Option Addr) : Seen R w S A 0 [] := ⟨rfl, by simp, fun h => absurd h (by omega)⟩
theorem row_drop (hT : P.underlying T = some (.slice (P.elem T))) (hz : ∀ w, (sizeOf (P.elem T)).run P w = .ok R.size w) (A : Option Addr) (n c k : Nat) (hk : k ≤ n) (hc : n ≤ c) :
    ∃ A', (∀ w, (Instr.slice T (.slice A n c) (some (.int .i64 (k : Int))) none none).run P w = .ok (.slice A' (n - k) (c - k)) w) ∧
      (∀ w S l, Seen R w S A n l → Seen R w S A' (n - k) (l.drop k)) := by
  refine ⟨if c = k then A else A.map (·.add (k * R.size)), fun w => ?_, fun w S l h => ?_⟩
  · rw [run_slice_l w T A n c hT .i64 k (by omega) (by omega), hz]
    simp [Result.andThen, sliced]
  · have hl := h.1
    by_cases e : c = k
    · rw [if_pos e, show n - k = 0 from by omega, List.drop_of_length_le (by omega)]
      exact Seen.empty w S A
    · rw [if_neg e]
      refine ⟨by rw [List.length_drop, hl], fun a ha => h.2.1 a (List.mem_of_mem_drop ha), fun h0 => ?_⟩
      obtain ⟨b, off, rfl, hb, hcell⟩ := h.2.2 (by omega)
      refine ⟨b, off + k * R.size, by simp [Go.WideShapes.add_plain], hb, fun j a hj i hi => ?_⟩
      rw [List.getElem?_drop] at hj
      have := hcell (k + j) a hj i hi
      rw [← this, show off + k * R.size + (j * R.size + i) = off + ((k + j) * R.size + i) by rw [Nat.add_mul]; omega]
theorem row_take (hT : P.underlying T = some (.slice (P.elem T))) (hz : ∀ w, (sizeOf (P.elem T)).run P w = .ok R.size w) (A : Option Addr) (n c k : Nat) (hk : k ≤ n) (hc : n ≤ c) :
    ∃ A', (∀ w, (Instr.slice T (.slice A n c) none (some (.int .i64 (k : Int))) none).run P w = .ok (.slice A' k c) w) ∧
      (∀ w S l, Seen R w S A n l → Seen R w S A' k (l.take k)) := by
  refine ⟨if c = 0 then A else A.map (·.add 0), fun w => ?_, fun w S l h => ?_⟩
  · rw [run_slice_h w T A n c hT .i64 k (by omega) (by omega), hz]
    simp [Result.andThen, sliced]
  · have hl := h.1
    by_cases e : c = 0
    · obtain rfl : k = 0 := by omega
      rw [List.take_zero]
      exact Seen.empty w S _
    · rw [if_neg e]
      refine ⟨by rw [List.length_take, hl]; omega, fun a ha => h.2.1 a (List.mem_of_mem_take ha), fun h0 => ?_⟩
      obtain ⟨b, off, rfl, hb, hcell⟩ := h.2.2 (by omega)
      refine ⟨b, off, by simp [Go.WideShapes.add_plain], hb, fun j a hj i hi => ?_⟩
      have hjk : j < k := by
        have := (List.getElem?_eq_some_iff.1 hj).1
        rw [List.length_take] at this
        omega
      rw [List.getElem?_take_of_lt hjk] at hj
      exact hcell j a hj i hi
end
end Go.Proofs.YtgdeecmhhbdjgaaGreat
