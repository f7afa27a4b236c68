/- attr: joined attributes split: plain. -/
import Derived.Test.YtfnclmacodchfaaAtH
namespace Go.Proofs.Ytfnclmacodchfaa
set_option linter.unusedVariables false
open Go.RowKit

theorem tk_app (x tl : List UInt8) (a : Int) (k : Nat) (hk : x.length = k) : tk ⟨x ++ tl, a, 0⟩ (k : Int) = (⟨tl, a + k, 0⟩, x) := by
  subst hk
  unfold tk
  rw [if_neg (by simp), if_neg (by omega), if_neg (by simp; omega)]
  simp
theorem numV_app (x tl : List UInt8) (a : Int) (k : Nat) (hk : x.length = k) : numV ⟨x ++ tl, a, 0⟩ k = getN x k := by
  unfold numV
  rw [tk_app x tl a k hk]
  rw [if_neg (by simp; omega)]
def cutK (f : Int) : Nat := if extB f then 65535 else 255
def cutD (d : RawD) : RawD := (d.1 % 256, d.2.1 % 256, d.2.2.take (cutK d.1))
theorem extB_mod (f : Int) : extB (f % 256) = extB f := by
  unfold extB
  have : f % 256 / 16 % 2 = f / 16 % 2 := by omega
  rw [this]
theorem byOf_mod256 (f : Int) : byOf (f % 256) = byOf f := by unfold byOf; rw [Int.emod_emod_of_dvd _ (by decide)]
theorem getN_one (x : Int) : getN [byOf x] 1 = x % 256 := by
  have e : getN [byOf x] 1 = 0 * 256 + ((byOf x).toNat : Int) := rfl
  rw [e, byOf_val]; omega
theorem getN_two (x : Int) : getN (be x 2) 2 = x % 65536 := by
  have e : getN (be x 2) 2 = (0 * 256 + ((byOf (x / 2 ^ (8 * 1))).toNat : Int)) * 256 + ((byOf (x / 2 ^ (8 * 0))).toNat : Int) := rfl
  rw [e, byOf_val, byOf_val]; omega
theorem leftV_app (x : UInt8) (l : List UInt8) (a : Int) : 0 < leftV ⟨x :: l, a, 0⟩ := by
  unfold leftV; rw [if_pos rfl]; simp only [List.length_cons]; omega
theorem rd_one (f t : Int) (v tl : List UInt8) (a : Int) : rdF ⟨oneL f t v ++ tl, a, 0⟩ = f % 256 ∧ rdT ⟨oneL f t v ++ tl, a, 0⟩ = t % 256 ∧ rdV ⟨oneL f t v ++ tl, a, 0⟩ = v.take (cutK f) ∧
    (∃ a', rdS4 ⟨oneL f t v ++ tl, a, 0⟩ = ⟨tl, a', 0⟩) ∧ 0 < leftV ⟨oneL f t v ++ tl, a, 0⟩ := by
  have key : ∀ (z : List UInt8) (k : Nat) (y : List UInt8), z.length = k → (k = if extB f then 2 else 1) → getN z k = y.length → oneL f t v ++ tl = [byOf f] ++ ([byOf t] ++ (z ++ (y ++ tl))) → y = v.take (cutK f) →
      rdF ⟨oneL f t v ++ tl, a, 0⟩ = f % 256 ∧ rdT ⟨oneL f t v ++ tl, a, 0⟩ = t % 256 ∧ rdV ⟨oneL f t v ++ tl, a, 0⟩ = v.take (cutK f) ∧ (∃ a', rdS4 ⟨oneL f t v ++ tl, a, 0⟩ = ⟨tl, a', 0⟩) ∧ 0 < leftV ⟨oneL f t v ++ tl, a, 0⟩ := by
    intro z k y hz hk hg e hy
    rw [e]
    have h1 := tk_app [byOf f] ([byOf t] ++ (z ++ (y ++ tl))) a 1 rfl
    have g1 := numV_app [byOf f] ([byOf t] ++ (z ++ (y ++ tl))) a 1 rfl
    have h2 := tk_app [byOf t] (z ++ (y ++ tl)) (a + (1 : Nat)) 1 rfl
    have g2 := numV_app [byOf t] (z ++ (y ++ tl)) (a + (1 : Nat)) 1 rfl
    have h3 := tk_app z (y ++ tl) (a + (1 : Nat) + (1 : Nat)) k hz
    have g3 := numV_app z (y ++ tl) (a + (1 : Nat) + (1 : Nat)) k hz
    have h4 := tk_app y tl (a + (1 : Nat) + (1 : Nat) + k) y.length rfl
    rw [getN_one] at g1 g2
    rw [hg] at g3
    have c1 : ((1 : Nat) : Int) = 1 := rfl
    rw [c1] at h1 h2 h3 h4 g2 g3
    have eF : rdF ⟨[byOf f] ++ ([byOf t] ++ (z ++ (y ++ tl))), a, 0⟩ = f % 256 := g1
    have eS1 : rdS1 ⟨[byOf f] ++ ([byOf t] ++ (z ++ (y ++ tl))), a, 0⟩ = ⟨[byOf t] ++ (z ++ (y ++ tl)), a + 1, 0⟩ := by unfold rdS1; rw [h1]
    have eT : rdT ⟨[byOf f] ++ ([byOf t] ++ (z ++ (y ++ tl))), a, 0⟩ = t % 256 := by unfold rdT; rw [eS1]; exact g2
    have eS2 : rdS2 ⟨[byOf f] ++ ([byOf t] ++ (z ++ (y ++ tl))), a, 0⟩ = ⟨z ++ (y ++ tl), a + 1 + 1, 0⟩ := by unfold rdS2; rw [eS1, h2]
    have eK : rdK ⟨[byOf f] ++ ([byOf t] ++ (z ++ (y ++ tl))), a, 0⟩ = k := by unfold rdK; rw [eF, extB_mod, hk]
    have eZ : rdZ ⟨[byOf f] ++ ([byOf t] ++ (z ++ (y ++ tl))), a, 0⟩ = y.length := by unfold rdZ; rw [eS2, eK]; exact g3
    have eS3 : rdS3 ⟨[byOf f] ++ ([byOf t] ++ (z ++ (y ++ tl))), a, 0⟩ = ⟨y ++ tl, a + 1 + 1 + k, 0⟩ := by unfold rdS3; rw [eS2, eK, h3]
    have eV : rdV ⟨[byOf f] ++ ([byOf t] ++ (z ++ (y ++ tl))), a, 0⟩ = y := by unfold rdV; rw [eS3, eZ, h4]
    have eS4 : rdS4 ⟨[byOf f] ++ ([byOf t] ++ (z ++ (y ++ tl))), a, 0⟩ = ⟨tl, a + 1 + 1 + k + y.length, 0⟩ := by unfold rdS4; rw [eS3, eZ, h4]
    exact ⟨eF, eT, by rw [eV, hy], ⟨_, eS4⟩, leftV_app _ _ _⟩
  cases hx : extB f
  · refine key [byOf (min v.length 255 : Nat)] 1 (v.take 255) rfl (by rw [hx]; rfl) ?_ ?_ (by unfold cutK; rw [hx]; rfl)
    · rw [getN_one, List.length_take, Nat.min_comm]; omega
    · rw [oneL_ff hx]; simp
  · refine key (be (min v.length 65535 : Nat) 2) 2 (v.take 65535) (be_len _ _) (by rw [hx]; rfl) ?_ ?_ (by unfold cutK; rw [hx]; rfl)
    · rw [getN_two, List.length_take, Nat.min_comm]; omega
    · rw [oneL_tt hx]; simp
theorem splitL_join : ∀ (xs : List RawD) (a : Int), splitL ⟨joinD xs, a, 0⟩ = some (xs.map cutD)
  | [], a => splitL_end (by unfold leftV; rw [if_pos rfl]; simp [joinD])
  | (f, t, v) :: xs, a => by
    have e : joinD ((f, t, v) :: xs) = oneL f t v ++ joinD xs := rfl
    rw [e]
    obtain ⟨h1, h2, h3, ⟨a', h4⟩, h5⟩ := rd_one f t v (joinD xs) a
    rw [splitL_go h5 (by rw [h4]), h1, h2, h3, h4, splitL_join xs a']
    rfl
theorem oneL_cut (d : RawD) : oneL (cutD d).1 (cutD d).2.1 (cutD d).2.2 = oneL d.1 d.2.1 d.2.2 := by
  obtain ⟨f, t, v⟩ := d
  show oneL (f % 256) (t % 256) (v.take (cutK f)) = oneL f t v
  cases hx : extB f
  · rw [oneL_ff hx, oneL_ff (by rw [extB_mod]; exact hx), byOf_mod256, byOf_mod256]
    unfold cutK; rw [hx]
    simp only [Bool.false_eq_true, if_false, List.length_take, List.take_take, Nat.min_self]
    rw [show min (min 255 v.length) 255 = min v.length 255 by omega]
  · rw [oneL_tt hx, oneL_tt (by rw [extB_mod]; exact hx), byOf_mod256, byOf_mod256]
    unfold cutK; rw [hx]
    simp only [if_true, List.length_take, List.take_take, Nat.min_self]
    rw [show min (min 65535 v.length) 65535 = min v.length 65535 by omega]
theorem joinD_cut (xs : List RawD) : joinD (xs.map cutD) = joinD xs := by
  unfold joinD
  rw [List.flatMap_map]
  congr 1
  funext d
  exact oneL_cut d
end Go.Proofs.Ytfnclmacodchfaa
