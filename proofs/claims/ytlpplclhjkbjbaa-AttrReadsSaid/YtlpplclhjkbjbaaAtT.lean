/- attr: attributes' bytes with a fault: plain laws. -/
import Derived.Test.YtlpplclhjkbjbaaAtQ
namespace Go.Proofs.Ytlpplclhjkbjbaa
set_option linter.unusedVariables false
open Go.RowKit

def restD (zs : List Int) (h m : Int) (b : Bool) : List RawD := (64, 2, segL zs) :: (64, 3, be h 4) :: (if b then [(128, 4, be (m % 4294967296) 4)] else [])
theorem attrsD_rest (o : Int) (zs : List Int) (h m : Int) (b : Bool) : attrsD o zs h m b = (64, 1, [byOf o]) :: restD zs h m b := rfl
theorem more_one (f t n : Int) (hf : extB f = false) : oneL f t [byOf n] = [byOf f, byOf t, byOf 1, byOf n] := by rw [oneL_ff hf]; rfl
theorem more_cut (f t n : Int) (hf : extB f = false) (f0 : 0 ≤ f) (f1 : f ≤ 255) (t0 : 0 ≤ t) (t1 : t ≤ 255) : cutD (f, t, [byOf n]) = (f, t, [byOf n]) := by
  unfold cutD
  have : cutK f = 255 := by unfold cutK; rw [hf]; rfl
  simp only [this]
  rw [show f % 256 = f by omega, show t % 256 = t by omega]; rfl
theorem new_type (b : Bool) (t : Int) (t0 : 5 ≤ t) : inB (tsOf b) t = false := by
  have hh : ∀ x : Int, x ≤ 4 → (x == t) = false := fun x hx => by rw [beq_eq_false_iff_ne]; omega
  unfold inB tsOf
  cases b
  · simp only [Bool.false_eq_true, if_false, List.any_cons, List.any_nil, hh 3 (by omega), hh 2 (by omega), hh 1 (by omega), Bool.or_false]
  · simp only [if_true, List.any_cons, List.any_nil, hh 4 (by omega), hh 3 (by omega), hh 2 (by omega), hh 1 (by omega), Bool.or_false]
section
variable {o : Int} {zs : List Int} {h m : Int} {b : Bool} (hg : goodA o zs h m b = true)
include hg
theorem rest_cut : (restD zs h m b).map cutD = restD zs h m b := by
  have := attrs_cut hg
  rw [attrsD_rest, List.map_cons] at this
  injection this
theorem parseA_x (z : Int) (z0 : 3 ≤ z) (z1 : z ≤ 202) : parseA ((attrsB o zs h m b).set 3 (byOf z)) = .error (6, ((attrsB o zs h m b).set 3 (byOf z)).take 4) := by
  have e : (attrsB o zs h m b).set 3 (byOf z) = joinD ((64, 1, [byOf z]) :: restD zs h m b) := by rw [attrsB_eq hg]; rfl
  have e4 : (joinD ((64, 1, [byOf z]) :: restD zs h m b)).take 4 = oneL 64 1 [byOf z] := rfl
  have hc : cutD (64, 1, [byOf z]) = (64, 1, [byOf z]) := rfl
  have ht : takeS att0 64 1 [byOf z] = .error 6 := by
    have hb : byAt [byOf z] 0 = z := by
      have : byAt [byOf z] 0 = ((byOf z).toNat : Int) := rfl
      rw [this, byOf_val]; omega
    unfold takeS
    rw [if_pos rfl, if_neg (by decide), if_neg (by simp), if_pos (by rw [hb]; omega)]
  rw [e, e4]
  unfold parseA
  rw [splitL_join, List.map_cons, hc, rest_cut hg]
  show parseG ((64, 1, [byOf z]) :: restD zs h m b) [] att0 = _
  rw [parseG_no (d := (64, 1, [byOf z])) rfl ht]
  rfl
theorem parseA_y : parseA ((attrsB o zs h m b).set 0 (byOf 128)) = .error (4, ((attrsB o zs h m b).set 0 (byOf 128)).take 4) := by
  have e : (attrsB o zs h m b).set 0 (byOf 128) = joinD ((128, 1, [byOf o]) :: restD zs h m b) := by rw [attrsB_eq hg]; rfl
  have e4 : (joinD ((128, 1, [byOf o]) :: restD zs h m b)).take 4 = oneL 128 1 [byOf o] := rfl
  have hc : cutD (128, 1, [byOf o]) = (128, 1, [byOf o]) := rfl
  have ht : takeS att0 128 1 [byOf o] = .error 4 := by
    unfold takeS
    rw [if_pos rfl, if_pos (by decide)]
  rw [e, e4]
  unfold parseA
  rw [splitL_join, List.map_cons, hc, rest_cut hg]
  show parseG ((128, 1, [byOf o]) :: restD zs h m b) [] att0 = _
  rw [parseG_no (d := (128, 1, [byOf o])) rfl ht]
  rfl
theorem split_more (f t n : Int) (hf : extB f = false) (f0 : 0 ≤ f) (f1 : f ≤ 255) (t0 : 0 ≤ t) (t1 : t ≤ 255) : splitL ⟨attrsB o zs h m b ++ [byOf f, byOf t, byOf 1, byOf n], 0, 0⟩ = some (attrsD o zs h m b ++ [(f, t, [byOf n])]) := by
  have e : attrsB o zs h m b ++ [byOf f, byOf t, byOf 1, byOf n] = joinD (attrsD o zs h m b ++ [(f, t, [byOf n])]) := by
    rw [joinD_app, attrsB_eq hg, ← more_one f t n hf]
    show _ = _ ++ (oneL f t [byOf n] ++ [])
    rw [List.append_nil]
  rw [e, split_attrs hg, List.map_cons, List.map_nil, more_cut f t n hf f0 f1 t0 t1]
theorem parseA_h (h0 : 0 ≤ h) (h1 : h ≤ 4294967295) (t n : Int) (t0 : 5 ≤ t) (t1 : t ≤ 204) : parseA (attrsB o zs h m b ++ [byOf 64, byOf t, byOf 1, byOf n]) = .error (2, [byOf 64, byOf t, byOf 1, byOf n]) := by
  have ht : takeS ⟨o, zs, h, m, b⟩ 64 t [byOf n] = .error 2 := by
    unfold takeS
    rw [if_neg (by omega), if_neg (by omega), if_neg (by omega), if_neg (by omega), if_pos (by decide)]
  unfold parseA
  rw [split_more hg 64 t n rfl (by omega) (by omega) (by omega) (by omega)]
  show parseG (attrsD o zs h m b ++ [(64, t, [byOf n])]) [] att0 = _
  rw [parse_attrs hg _ h0 h1, parseG_no (d := (64, t, [byOf n])) (new_type b t t0) ht]
  show Except.error (2, if (2 : Int) = 11 then [] else oneL 64 t [byOf n]) = _
  rw [if_neg (by decide), more_one 64 t n rfl]
theorem parseA_i (h0 : 0 ≤ h) (h1 : h ≤ 4294967295) (t n : Int) (t0 : 5 ≤ t) (t1 : t ≤ 204) : parseA (attrsB o zs h m b ++ [byOf 192, byOf t, byOf 1, byOf n]) = .ok ⟨o, zs, h, m, b⟩ := by
  have ht : takeS ⟨o, zs, h, m, b⟩ 192 t [byOf n] = .ok ⟨o, zs, h, m, b⟩ := by
    unfold takeS
    rw [if_neg (by omega), if_neg (by omega), if_neg (by omega), if_neg (by omega), if_neg (by decide)]
  have hin : ∀ x : Int, inB (tsOf b) x = true → inB (t :: tsOf b) x = true := fun x hx => by
    show ((t == x) || inB (tsOf b) x) = true
    rw [hx, Bool.or_true]
  unfold parseA
  rw [split_more hg 192 t n rfl (by omega) (by omega) (by omega) (by omega)]
  show parseG (attrsD o zs h m b ++ [(192, t, [byOf n])]) [] att0 = _
  rw [parse_attrs hg _ h0 h1, parseG_go (d := (192, t, [byOf n])) (new_type b t t0) ht]
  show (if inB (t :: tsOf b) 1 = false then _ else if inB (t :: tsOf b) 2 = false then _ else if inB (t :: tsOf b) 3 = false then _ else _) = _
  rw [if_neg (by rw [hin 1 (by cases b <;> rfl)]; decide), if_neg (by rw [hin 2 (by cases b <;> rfl)]; decide), if_neg (by rw [hin 3 (by cases b <;> rfl)]; decide)]
end
end Go.Proofs.Ytlpplclhjkbjbaa
