/- The law ChkOrder: the walk. -/
import Derived.Test.YtmibakbfjljfmaaChkO
import Derived.Test.YtmibakbfjljfmaaChkC
import Derived.Test.YtmibakbfjljfmaaOpen
namespace Go.Proofs.Ytmibakbfjljfmaa
set_option linter.unusedVariables false
open Go.RowKit

/-- no block of one's is the other's. -/
def Dis (a b : Value) : Prop := ∀ g, a.ownBlock = some g → b.ownBlock ≠ some g
theorem Dis.symm {a b : Value} (h : Dis a b) : Dis b a := fun g h1 h2 => h g h2 h1
theorem Dis.row {a b : Value} (h : Dis a b) : b.ownBlock = none ∨ b.ownBlock ≠ a.ownBlock := by
  cases hb : b.ownBlock with
  | none => exact .inl rfl
  | some g => exact .inr fun e => h g e.symm hb
/-- behind an append to a. -/
theorem Dis.app {w : World} {base n : Nat} {l : List UInt8} {a a' b : Value} (h : Dis a b) (hb : OwnB w base b n l) (ha : a'.ownBlock = a.ownBlock ∨ a'.ownBlock = some w.heap.size) : Dis a' b := by
  intro g h1 h2
  rcases ha with e | e
  · exact h g (e ▸ h1) h2
  · have := (World.ownsRow.lt hb g h2).2
    rw [e] at h1
    injection h1 with h1
    omega

set_option maxHeartbeats 400000 in
theorem order_walk (A : Option Addr) (n cap : Nat) (zs : List Int) (u : Int) (w : World) (_hl : n ≤ cap) (_hm : cap ≤ maxLen) (hI : Nums .u16 w w.heap.size A n zs) (hu : (Lit.int .u64 u).wf = true) :
    Calls Try.prog 5 #[.slice A n cap, .int .u64 u] w fun e w' => e = .returned (.bool true) ∧ Below w.heap.size w w' := by
  obtain ⟨u1, u2⟩ := bounds_u64 hu
  clear hu
  by_cases h0 : 300 < n
  · go_enter Try.func5, Try.ntmps5
    go_wp2_with (go_at_call 8; refine (lives_any _).mono ?_; rintro e w' ⟨rfl, hb⟩)
    go_ret
    exact ⟨rfl, hb⟩
  · by_cases h1 : n = 0
    · subst h1
      go_enter Try.func5, Try.ntmps5
      have H2 : Hid (csum [] = 0) := (by decide +kernel : csum [] = 0)
      have H3 : Hid (foldV (0 % 65536 + 0 % 65536) = 0) := (by decide +kernel : foldV (0 % 65536 + 0 % 65536) = 0)
      go_wp2_with fail
      refine wp_loop_rounds 1 ?_
      rw [rounds_succ]
      go_wp2_with fail
      have hbel := (Below.refl w.heap.size w).drew
      go_region_held3 (fun w' => Below w.heap.size w w') (exact hbel)
        (first
          | (go_at_call 9; refine (sum_any none 0 0 [] (by omega) _ Byt.none_).mono ?_; rintro e w' ⟨rfl, hb⟩; rw [H2.out]; have hbel := hbel.trans (hb.mono hbel.size); clear hb)
          | (go_at_call 14; refine (add_any _ _ _).mono ?_; rintro e w' ⟨rfl, rfl⟩; rw [H3.out])
          | (go_at_call 8; refine (lives_any _).mono ?_; rintro e w' ⟨rfl, hb⟩; have hbel := hbel.trans (hb.mono hbel.size); clear hb))
      all_goals go_wp2
      all_goals go_ret
      all_goals exact ⟨rfl, hbel⟩
    · obtain ⟨t, ht, htn⟩ : ∃ t : Nat, u % (n : Int) = t ∧ t < n := ⟨(u % n).toNat, by have := Int.emod_nonneg u (show (n : Int) ≠ 0 by omega); omega, by have := Int.emod_nonneg u (show (n : Int) ≠ 0 by omega); have := Int.emod_lt_of_pos u (show (0 : Int) < n by omega); omega⟩
      obtain ⟨b0, o0, rfl, hb0, hc0⟩ := hI.2.2 (by omega)
      have HC := Lib.hid hc0
      have HL := Lib.hid hI.1
      have HW : Hid (∀ j, j < n → 0 ≤ nAt zs j ∧ nAt zs j ≤ 65535) := fun j hj => bounds_u16 (hI.2.1 _ (nAt_mem zs j (by rw [hI.1]; exact hj)))
      clear hc0 hI
      go_enter Try.func5, Try.ntmps5
      go_wp2_with fail
      go_loopw [5, 6, 17] (fun va vb i wr => ∃ k : Nat, k ≤ n ∧ i = .int .i64 k ∧ OwnB wr w.heap.size va (2 * k) (wbytes (nAt zs) k) ∧ OwnB wr w.heap.size vb (2 * k) (wbytes (fun i => nAt zs ((i + t) % n)) k) ∧ Dis va vb ∧ Below w.heap.size w wr)
        (fun _ _ i _ => n - (intOf i).toNat)
      case atStart => exact ⟨0, Nat.zero_le _, rfl, OwnB.nil _ _, OwnB.nil _ _, (fun g h => by cases h), Below.refl _ _⟩
      case round =>
        obtain ⟨k, hk, rfl, hA, hB, hD, hbel⟩ := hrel
        by_cases hlt : k < n
        · have hmod : ((k : Int) + (t : Int)) % (n : Int) = ((k + t) % n : Nat) := by simp
          obtain ⟨r, hr⟩ : ∃ r, r = (k + t) % n := ⟨_, rfl⟩
          have hrn : r < n := by rw [hr]; exact Nat.mod_lt _ (by omega)
          rw [← hr] at hmod
          have HR := Lib.hid hr
          clear hr
          have c1 := (hbel.cell (p := ⟨b0, o0 + k, none⟩) hb0).trans (HC.out k hlt)
          have c2 := (hbel.cell (p := ⟨b0, o0 + r, none⟩) hb0).trans (HC.out r hrn)
          obtain ⟨x1, x2⟩ := HW.out k hlt
          obtain ⟨y1, y2⟩ := HW.out r hrn
          have hX : Byt (wr.alloc (.cells #[.int .u8 (nAt zs k / 256), .int .u8 (nAt zs k % 256)] 5)) (wr.heap.size + 1) (some ⟨wr.heap.size, 0, none⟩) 2 [byOf (nAt zs k / 256), byOf (nAt zs k)] := by
            have := Byt.new wr [byOf (nAt zs k / 256), byOf (nAt zs k)] 5 (0, 0)
            have e : nAt zs k / 256 % 256 = nAt zs k / 256 := by omega
            simpa [byCells, byOf_val, e] using this
          have hY : ∀ w1 : World, Byt (w1.alloc (.cells #[.int .u8 (nAt zs r / 256), .int .u8 (nAt zs r % 256)] 5)) (w1.heap.size + 1) (some ⟨w1.heap.size, 0, none⟩) 2 [byOf (nAt zs r / 256), byOf (nAt zs r)] := by
            intro w1
            have := Byt.new w1 [byOf (nAt zs r / 256), byOf (nAt zs r)] 5 (0, 0)
            have e : nAt zs r / 256 % 256 = nAt zs r / 256 := by omega
            simpa [byCells, byOf_val, e] using this
          have HY := Lib.hid hY
          clear hY
          go_wp2_with (first
            | (at_builtin; refine wpList_app _ rfl (.tmp 24) (.tmp 30) rfl w.heap.size _ (2 * k) _ rfl (hA.alloc _) _ _ 2 2 _ rfl hX (by omega) (by have := hbel.size; simp; omega) ?_; intro v1 w1 hown1 hg1 hd1; have hb1 : Below w.heap.size w w1 := (hbel.alloc hbel.size _).trans (OwnB.below_app (hA.alloc _) hg1 (by have := hbel.size; simp; omega)); have c2 := (hb1.cell (p := ⟨b0, o0 + r, none⟩) hb0).trans (HC.out r hrn); have hB1 := (hB.alloc (.cells #[.int .u8 (nAt zs k / 256), .int .u8 (nAt zs k % 256)] 5)).kept hg1 hD.row; have hD1 := hD.app (hB.alloc (.cells #[.int .u8 (nAt zs k / 256), .int .u8 (nAt zs k % 256)] 5)) hd1)
            | (at_builtin; refine wpList_app _ rfl (.tmp 48) (.tmp 54) rfl w.heap.size _ (2 * k) _ rfl (hB1.alloc _) _ _ 2 2 _ rfl (HY.out w1) (by omega) (by have := hb1.size; simp; omega) ?_; intro v2 w2 hown2 hg2 hd2; have hb2 : Below w.heap.size w w2 := (hb1.alloc hb1.size _).trans (OwnB.below_app (hB1.alloc _) hg2 (by have := hb1.size; simp; omega)); have hA2 := (hown1.alloc (.cells #[.int .u8 (nAt zs r / 256), .int .u8 (nAt zs r % 256)] 5)).kept hg2 hD1.symm.row; have hD2 := hD1.symm.app (hown1.alloc (.cells #[.int .u8 (nAt zs r / 256), .int .u8 (nAt zs r % 256)] 5)) hd2))
          go_roundw
          case rel => exact ⟨k + 1, by omega, by go_num, hA2, by rw [HR.out] at hown2; exact hown2, hD2.symm, hb2⟩
          case measure => simp [intOf]; omega
        · obtain rfl : k = n := by omega
          obtain ⟨ga, ca, rfl, hga, hgas, hca, _⟩ := hA.form (by omega)
          obtain ⟨gb, cb, rfl, hgb, hgbs, hcb, _⟩ := hB.form (by omega)
          go_wp2_with fail
          obtain ⟨p, hp⟩ : ∃ p : Nat, p = 2 * (k / 2) := ⟨_, rfl⟩
          rw [show (2 * (k : Int) / 4 * 2) = (p : Int) from by omega]
          have m1 : p ≤ 2 * k := by omega
          have m2 : p < ca := by omega
          have e1 := slice_hi ga 0 (2 * k) ca p (by omega)
          have e2 := slice_lo ga 0 (2 * k) ca p (by omega) (by omega)
          rw [Nat.zero_add] at e2
          have lA : (wbytes (nAt zs) k).length = 2 * k := wbytes_len _ _
          obtain ⟨s, hs⟩ : ∃ s, csum (wbytes (nAt zs) k) = s := ⟨_, rfl⟩
          have HA : Hid (csum (wbytes (nAt zs) k) = s) := hs
          have HBB : Hid (csum (wbytes (fun i => nAt zs ((i + t) % k)) k) = s) := by
            rw [← hs, csum_wbytes _ _ HW.out, csum_wbytes _ _ (fun i _ => HW.out _ (Nat.mod_lt _ (by omega)))]
            exact congrArg foldV (sum_rot (nAt zs) k t (by omega))
          have HP : Hid (foldV (csum ((wbytes (nAt zs) k).take p) % 65536 + csum ((wbytes (nAt zs) k).drop p) % 65536) = s) := by
            rw [← hs, hp]; exact csum_parts _ _ (by rw [lA, ← hp]; exact m1)
          clear hs lA hp
          have hbel := hbel.drew
          have hA := hA.drew
          have hB := hB.drew
          go_region_held3 (fun w' => OwnB w' w.heap.size (.slice (some ⟨ga, 0, none⟩) (2 * k) ca) (2 * k) (wbytes (nAt zs) k) ∧ OwnB w' w.heap.size (.slice (some ⟨gb, 0, none⟩) (2 * k) cb) (2 * k) (wbytes (fun i => nAt zs ((i + t) % k)) k) ∧ Below w.heap.size w w') (exact ⟨hA, hB, hbel⟩)
            (first
              | (go_at_call 9; with_reducible refine (sum_any (some ⟨ga, 0, none⟩) (2 * k) ca _ (by omega) _ hA.byt).mono ?_; rintro e w' ⟨rfl, hb⟩; rw [HA.out]; have hA := hA.below hb; have hB := hB.below hb; have hbel := hbel.trans (hb.mono hbel.size); clear hb)
              | (go_at_call 9; with_reducible refine (sum_any (some ⟨gb, 0, none⟩) (2 * k) cb _ (by omega) _ hB.byt).mono ?_; rintro e w' ⟨rfl, hb⟩; rw [HBB.out]; have hA := hA.below hb; have hB := hB.below hb; have hbel := hbel.trans (hb.mono hbel.size); clear hb)
              | (go_at_call 9; with_reducible refine (sum_any (some ⟨ga, 0, none⟩) p ca _ (by omega) _ (hA.byt.take m1)).mono ?_; rintro e w' ⟨rfl, hb⟩; have hA := hA.below hb; have hB := hB.below hb; have hbel := hbel.trans (hb.mono hbel.size); clear hb)
              | (go_at_call 9; have hd := hA.byt.drop m1; rw [Nat.zero_add] at hd; with_reducible refine (sum_any (some ⟨ga, p, none⟩) (2 * k - p) (ca - p) _ (by omega) _ hd).mono ?_; clear hd; rintro e w' ⟨rfl, hb⟩; have hA := hA.below hb; have hB := hB.below hb; have hbel := hbel.trans (hb.mono hbel.size); clear hb)
              | (go_at_call 14; refine (add_any _ _ _).mono ?_; rintro e w' ⟨rfl, rfl⟩; rw [HP.out])
              | (go_at_call 8; refine (lives_any _).mono ?_; rintro e w' ⟨rfl, hb⟩; have hA := hA.below hb; have hB := hB.below hb; have hbel := hbel.trans (hb.mono hbel.size); clear hb))
          all_goals go_wp2
          all_goals go_ret
          all_goals exact ⟨rfl, hbel⟩
end Go.Proofs.Ytmibakbfjljfmaa
