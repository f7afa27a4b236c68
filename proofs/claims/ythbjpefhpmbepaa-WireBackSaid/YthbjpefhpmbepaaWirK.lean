/- wire: WireBack. -/
import Derived.Test.YthbjpefhpmbepaaWirF
import Derived.Test.YthbjpefhpmbepaaOpen
namespace Go.Proofs.Ythbjpefhpmbepaa
set_option linter.unusedVariables false
open Go.RowKit

/-- how many bytes number k takes. -/
def szOf (k : Nat) : Nat := if k % 3 = 0 then 1 else if k % 3 = 1 then 2 else 4
theorem szOf_le (k : Nat) : szOf k ≤ 4 := by unfold szOf; split <;> (try split) <;> omega
theorem szOf_pos (k : Nat) : 0 < szOf k := by unfold szOf; split <;> (try split) <;> omega
/-- the first k numbers in bytes. -/
def enc (zs : List Int) : Nat → List UInt8
  | 0 => []
  | k + 1 => enc zs k ++ be (nAt zs k) (szOf k)
theorem enc_len (zs : List Int) (k : Nat) : (enc zs k).length ≤ 4 * k := by
  induction k with
  | zero => exact Nat.le_refl _
  | succ k ih => have := szOf_le k; simp only [enc, List.length_append, be_len]; omega
theorem enc_split (zs : List Int) (n k : Nat) (h : k ≤ n) : ∃ X, enc zs n = enc zs k ++ X := by
  induction n with
  | zero => obtain rfl : k = 0 := by omega
            exact ⟨[], by simp⟩
  | succ n ih =>
    by_cases e : k = n + 1
    · subst e; exact ⟨[], by simp⟩
    · obtain ⟨X, hX⟩ := ih (by omega)
      exact ⟨X ++ be (nAt zs n) (szOf n), by simp [enc, hX, List.append_assoc]⟩
theorem getN_be1 (x : Int) : getN (be x 1) 1 = x % 256 := by
  simp [be, getN, byAt, byOf_val]
theorem getN_be2 (x : Int) : getN (be x 2) 2 = x % 65536 := by
  simp [be, getN, byAt, byOf_val]; omega
theorem getN_be4 (x : Int) : getN (be x 4) 4 = x % 4294967296 := by
  simp [be, getN, byAt, byOf_val]; omega
/-- where the reading stands behind k numbers. -/
def stAt (zs : List Int) (n : Nat) (l : List UInt8) (k : Nat) : St := ⟨(enc zs n ++ l).drop (enc zs k).length, (enc zs k).length, 0⟩
theorem tk_step (zs : List Int) (n : Nat) (l : List UInt8) (k : Nat) (h : k < n) : tk (stAt zs n l k) (szOf k) = (stAt zs n l (k + 1), be (nAt zs k) (szOf k)) := by
  obtain ⟨X, hX⟩ := enc_split zs n (k + 1) h
  have e1 : (enc zs n ++ l).drop (enc zs k).length = be (nAt zs k) (szOf k) ++ (X ++ l) := by
    rw [hX]; simp [enc, List.append_assoc]
  have hl : (stAt zs n l k).l = be (nAt zs k) (szOf k) ++ (X ++ l) := e1
  have e2 : stAt zs n l (k + 1) = ⟨X ++ l, ((enc zs k).length : Int) + szOf k, 0⟩ := by
    unfold stAt
    rw [hX]
    have e3 : (enc zs (k + 1)).length = (enc zs k).length + szOf k := by simp [enc, be_len]
    rw [e3]
    congr 1
    rw [← e3, List.append_assoc, List.drop_left]
  unfold tk
  have e4 : (stAt zs n l k).e = 0 := rfl
  have e5 : (stAt zs n l k).at_ = ((enc zs k).length : Int) := rfl
  rw [e4, e5, hl, e2]
  rw [if_neg (by simp), if_neg (by omega), if_neg (by simp [be_len]; omega)]
  simp only [Int.toNat_natCast]
  rw [List.drop_left' (be_len _ _), List.take_left' (be_len _ _)]
theorem numV_step (zs : List Int) (n : Nat) (l : List UInt8) (k : Nat) (h : k < n) : numV (stAt zs n l k) (szOf k) = getN (be (nAt zs k) (szOf k)) (szOf k) := by
  unfold numV
  rw [tk_step zs n l k h]
  rw [if_neg (by simp [be_len])]

set_option maxHeartbeats 2000000 in
theorem back_walk (A : Option Addr) (n c : Nat) (zs : List Int) (A2 : Option Addr) (n2 c2 : Nat) (l : List UInt8) (w : World) (_h1 : n ≤ c) (_h2 : c ≤ maxLen) (hI : Nums .u32 w w.heap.size A n zs) (_h3 : n2 ≤ c2) (_h4 : c2 ≤ maxLen) (hI2 : Byt w w.heap.size A2 n2 l) :
    Calls Try.prog 4 #[.slice A n c, .slice A2 n2 c2] w fun e w' => e = .returned (.bool true) ∧ Below w.heap.size w w' := by
  by_cases hn : 60 < n ∨ 300 < n2
  · go_enter Try.func4, Try.ntmps4
    go_wp2_with fail
    all_goals try (exfalso; omega)
    all_goals (refine (lives_any _).mono ?_; rintro e w' ⟨rfl, hb⟩; go_wp2_with fail; go_ret; exact ⟨rfl, hb⟩)
  · go_enter Try.func4, Try.ntmps4
    have hn1 : n ≤ 60 := by omega
    have hn2 : n2 ≤ 300 := by omega
    clear hn
    go_wp2_with fail
    all_goals try (exfalso; omega)
    go_loopw [5, 23] (fun u i wr => ∃ (k : Nat) (A5 : Option Addr) (m5 c5 : Nat), k ≤ n ∧ u = .slice A5 m5 c5 ∧ i = .int .i64 (k : Int) ∧ Byt wr wr.heap.size A5 m5 (enc zs k) ∧ Below w.heap.size w wr) (fun _ i _ => n - (intOf i).toNat)
    case atStart => exact ⟨0, none, 0, 0, Nat.zero_le _, rfl, rfl, byt_empty _ _ _, Below.refl _ _⟩
    case round =>
      obtain ⟨k, A5, m5, c5, hk, rfl, rfl, hby, hbw⟩ := hrel
      have hbs := hbw.size
      have hel := enc_len zs k
      have hm5 := hby.1
      by_cases hlt : k < n
      · obtain ⟨b, off, rfl, hb, hc⟩ := hI.2.2 (by omega)
        have hcl := (hbw.cell hb).trans (hc k hlt)
        have hwf := hI.2.1 _ (nAt_mem zs k (by rw [hI.1]; exact hlt))
        obtain ⟨z1, z2⟩ := bounds_u32 hwf
        have hkm : k % 3 = 0 ∨ k % 3 = 1 ∨ k % 3 = 2 := by omega
        rcases hkm with hkm | hkm | hkm
        · have hki : (k : Int) % 3 = 0 := by omega
          have hsz : szOf k = 1 := by simp [szOf, hkm]
          have hput := put8_any wr A5 m5 c5 (enc zs k) wr.heap.size hby (Nat.le_refl _) (by omega) (nAt zs k)
          rw [Int.emod_eq_of_lt z1 (by omega)] at hput
          go_wp2_with (go_at_call 11; refine hput.mono ?_; rintro e w5 ⟨v5, rfl, hown5, hb5⟩; obtain ⟨A6, c6, rfl, _, hby6, _⟩ := hown5.any)
          refine ⟨⟨k + 1, _, _, _, by omega, rfl, by go_num, ?_, hbw.trans (hb5.mono hbs)⟩, by simp [intOf]; omega⟩
          rw [show enc zs (k + 1) = enc zs k ++ be (nAt zs k) 1 from by simp [enc, hsz]]
          exact hby6
        · have hki : (k : Int) % 3 = 1 := by omega
          have hsz : szOf k = 2 := by simp [szOf, hkm]
          have hput := put16_any wr A5 m5 c5 (enc zs k) wr.heap.size hby (Nat.le_refl _) (by omega) (nAt zs k)
          rw [Int.emod_eq_of_lt z1 (by omega)] at hput
          go_wp2_with (go_at_call 13; refine hput.mono ?_; rintro e w5 ⟨v5, rfl, hown5, hb5⟩; obtain ⟨A6, c6, rfl, _, hby6, _⟩ := hown5.any)
          refine ⟨⟨k + 1, _, _, _, by omega, rfl, by go_num, ?_, hbw.trans (hb5.mono hbs)⟩, by simp [intOf]; omega⟩
          rw [show enc zs (k + 1) = enc zs k ++ be (nAt zs k) 2 from by simp [enc, hsz]]
          exact hby6
        · have hki : (k : Int) % 3 = 2 := by omega
          have hsz : szOf k = 4 := by simp [szOf, hkm]
          have hput := put32_any wr A5 m5 c5 (enc zs k) wr.heap.size hby (Nat.le_refl _) (by omega) (nAt zs k) z1 z2
          go_wp2_with (go_at_call 14; refine hput.mono ?_; rintro e w5 ⟨v5, rfl, hown5, hb5⟩; obtain ⟨A6, c6, rfl, _, hby6, _⟩ := hown5.any)
          refine ⟨⟨k + 1, _, _, _, by omega, rfl, by go_num, ?_, hbw.trans (hb5.mono hbs)⟩, by simp [intOf]; omega⟩
          rw [show enc zs (k + 1) = enc zs k ++ be (nAt zs k) 4 from by simp [enc, hsz]]
          exact hby6
      · obtain rfl : k = n := by omega
        have hown0 := OwnB.lit (base := wr.heap.size) wr [] (Nat.le_refl _) (by simp)
        have hI5 := hby.alloc (Nat.le_refl _) (.cells #[] 5)
        have hIb := hI2.below hbw
        go_wp2_with first
          | (at_builtin; refine wpList_app _ rfl (.tmp 46) (.tmp 47) rfl wr.heap.size _ 0 [] rfl hown0 _ A5 m5 c5 _ rfl hI5 (by omega) (by simp) ?_; intro v6 w6 hown6 hg6 hd6; clear hd6; have hb6 : Below wr.heap.size wr w6 := ((Below.refl _ _).alloc (Nat.le_refl _) _).trans (hown0.below_app hg6 (by simp)); rw [Nat.zero_add, List.nil_append] at hown6; have hIb6 := hIb.keep (fun p hp => hb6.cell (Nat.lt_of_lt_of_le hp hbs)))
          | (at_builtin; refine wpList_app _ rfl (.tmp 48) (.tmp 49) rfl wr.heap.size v6 m5 _ rfl hown6 _ A2 n2 c2 l rfl hIb6 (by omega) hb6.size ?_; intro v7 w7 hown7 hg7 hd7; clear hd7; have hb7 : Below wr.heap.size wr w7 := hb6.trans (hown6.below_app hg7 hb6.size); obtain ⟨A7, c7, rfl, _, hby7, _⟩ := hown7.any)
        refine (read_any w7 A7 _ c7 _ _ hby7 (Nat.le_refl _) (by omega)).mono ?_
        rintro e w8 ⟨g, rfl, hg8, hs8, hb8⟩
        have hb78 := hb7.trans (hb8.mono hb7.size)
        have hbw8 := hbw.trans (hb78.mono hbs)
        have hgw : w.heap.size ≤ g := by have := hbw.size; have := hb7.size; omega
        clear hown6 hown7 hg6 hg7 hb6 hb7 hown0 hI5 hIb6 hby7 hb8 hb78
        go_wp2_with fail
        go_loopw [54] (fun i wr2 => ∃ j : Nat, j ≤ k ∧ i = .int .i64 (j : Int) ∧ Src wr2 g (stAt zs k l j) ∧ Below w.heap.size w wr2) (fun i _ => k - (intOf i).toNat)
        case atStart => exact ⟨0, Nat.zero_le _, rfl, hs8, hbw8⟩
        case round =>
        obtain ⟨j, hj, rfl, hs2, hb2⟩ := hrel
        by_cases hlt2 : j < k
        · obtain ⟨b, off, rfl, hb, hc⟩ := hI.2.2 (by omega)
          have hcl := (hb2.cell hb).trans (hc j hlt2)
          have hwf := hI.2.1 _ (nAt_mem zs j (by rw [hI.1]; exact hlt2))
          obtain ⟨z1, z2⟩ := bounds_u32 hwf
          have hkm : j % 3 = 0 ∨ j % 3 = 1 ∨ j % 3 = 2 := by omega
          rcases hkm with hkm | hkm | hkm
          · have hki : (j : Int) % 3 = 0 := by omega
            have hsz : szOf j = 1 := by simp [szOf, hkm]
            have t1 : tk (stAt zs k l j) 1 = (stAt zs k l (j + 1), be (nAt zs j) 1) := by
              have h := tk_step zs k l j hlt2
              rw [hsz] at h
              exact h
            have t2 := numV_step zs k l j hlt2
            rw [hsz] at t2
            rw [getN_be1] at t2
            have hcall := u8_any wr g _ hs2
            rw [t1, t2] at hcall
            go_wp2_with (go_at_call 16; refine hcall.mono ?_; rintro e w5 ⟨rfl, hs5, hg5⟩)
            all_goals try (exfalso; omega)
            refine ⟨⟨j + 1, by omega, by go_num, hs5, below_own hb2 hg5 hb2.size hgw⟩, by simp [intOf]; omega⟩
          · have hki : (j : Int) % 3 = 1 := by omega
            have hsz : szOf j = 2 := by simp [szOf, hkm]
            have t1 : tk (stAt zs k l j) 2 = (stAt zs k l (j + 1), be (nAt zs j) 2) := by
              have h := tk_step zs k l j hlt2
              rw [hsz] at h
              exact h
            have t2 := numV_step zs k l j hlt2
            rw [hsz] at t2
            rw [getN_be2] at t2
            have hcall := u16_any wr g _ hs2
            rw [t1, t2] at hcall
            go_wp2_with (go_at_call 17; refine hcall.mono ?_; rintro e w5 ⟨rfl, hs5, hg5⟩)
            all_goals try (exfalso; omega)
            refine ⟨⟨j + 1, by omega, by go_num, hs5, below_own hb2 hg5 hb2.size hgw⟩, by simp [intOf]; omega⟩
          · have hki : (j : Int) % 3 = 2 := by omega
            have hsz : szOf j = 4 := by simp [szOf, hkm]
            have t1 : tk (stAt zs k l j) 4 = (stAt zs k l (j + 1), be (nAt zs j) 4) := by
              have h := tk_step zs k l j hlt2
              rw [hsz] at h
              exact h
            have t2 := numV_step zs k l j hlt2
            rw [hsz] at t2
            rw [getN_be4, Int.emod_eq_of_lt z1 (by omega)] at t2
            have hcall := u32_any wr g _ hs2
            rw [t1, t2] at hcall
            go_wp2_with (go_at_call 18; refine hcall.mono ?_; rintro e w5 ⟨rfl, hs5, hg5⟩)
            all_goals try (exfalso; omega)
            refine ⟨⟨j + 1, by omega, by go_num, hs5, below_own hb2 hg5 hb2.size hgw⟩, by simp [intOf]; omega⟩
        · obtain rfl : k = j := by omega
          go_wp2_with fail
          have hst : stAt zs k l k = ⟨l, (m5 : Int), 0⟩ := by
            unfold stAt
            rw [List.drop_left, hm5]
          rw [hst] at hs2
          have hl2 := hI2.1
          have hlv : leftV ⟨l, (m5 : Int), 0⟩ = (l.length : Int) := by simp [leftV]
          have htk : tk ⟨l, (m5 : Int), 0⟩ (l.length : Int) = (⟨[], (m5 : Int) + l.length, 0⟩, l) := by
            simp [tk]
          have hr2 := rest_any wr.drew g _ hs2.drew
          rw [hlv, htk] at hr2
          have hIb2 := hI2.below hb2
          have hcb0 := run_str wr.drew hIb2.drew c2
          have hws := hb2.size
          have hgl := hs2.lt
          have hee : endV ⟨[], (m5 : Int) + l.length, 0⟩ = 0 := by simp [endV, leftV]
          clear hI hst hIb hby hbw hs8 hbw8 hlv htk hm5
          go_region_with (first
            | (go_at_call 19; refine (at_any _ g _ hs2.drew).mono ?_; rintro e w' ⟨rfl, rfl⟩)
            | (go_at_call 20; refine hr2.mono ?_; rintro e w5 ⟨v5, rfl, hown5, hs5, hg5⟩; have hb5 := below_own hb2.drew hg5 hws hgw; have hcb5 := run_str w5 (hI2.below hb5) c2; have hcv5 := hown5.str; have hz5 := hb5.size)
            | (go_at_call 21; refine (end_any _ g _ hs5).mono ?_; rintro e w6 ⟨rfl, hb6⟩; have hb6 := hb5.trans (hb6.mono hz5); have hcb6 := run_str w6 (hI2.below hb6) c2; have hz6 := hb6.size; simp only [hee])
            | (go_at_call 7; refine (lives_any _).mono ?_; rintro e w7 ⟨rfl, hb7⟩; have hb7 := hb6.trans (hb7.mono hz6); have hcb7 := run_str w7 (hI2.below hb7) c2))
          all_goals (go_wp2_with fail; go_ret; exact ⟨rfl, hb7⟩)
end Go.Proofs.Ythbjpefhpmbepaa
