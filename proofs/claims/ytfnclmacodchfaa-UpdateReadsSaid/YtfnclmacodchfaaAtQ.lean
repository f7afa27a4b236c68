/- attr: attributes' bytes, parsed: plain laws. -/
import Derived.Test.YtfnclmacodchfaaAtO
import Derived.Test.YtfnclmacodchfaaAtG
namespace Go.Proofs.Ytfnclmacodchfaa
set_option linter.unusedVariables false
open Go.RowKit

theorem getN_be4' (x : Int) : getN (be x 4) 4 = x % 4294967296 := by
  have e : getN (be x 4) 4 = (((0 * 256 + ((byOf (x / 2 ^ (8 * 3))).toNat : Int)) * 256 + ((byOf (x / 2 ^ (8 * 2))).toNat : Int)) * 256 + ((byOf (x / 2 ^ (8 * 1))).toNat : Int)) * 256 + ((byOf (x / 2 ^ (8 * 0))).toNat : Int) := rfl
  rw [e, byOf_val, byOf_val, byOf_val, byOf_val]; omega
theorem num_app7 (x tl : List UInt8) (a : Int) (k : Nat) (hk : x.length = k) : numV ⟨x ++ tl, a, 0⟩ k = getN x k ∧ (tk ⟨x ++ tl, a, 0⟩ (k : Int)).1 = ⟨tl, a + k, 0⟩ := by
  rw [tk_app x tl a k hk]
  exact ⟨numV_app x tl a k hk, rfl⟩
theorem joinD_app (xs ys : List RawD) : joinD (xs ++ ys) = joinD xs ++ joinD ys := by unfold joinD; rw [List.flatMap_append]
theorem segT_cons (z : Int) (zs : List Int) : segT (z :: zs) = be (z % 18446744073709551616) 2 ++ segT zs := rfl
theorem asB_iff (z : Int) : asB z = true ↔ 1 ≤ z ∧ z ≤ 65535 := by simp [asB]
theorem inner_seg (f : St → List Int → Option (List Int)) : ∀ (zs : List Int) (tl : List UInt8) (a : Int) (l : List Int), zs.all asB = true → l.length + zs.length ≤ 16 → ∃ a', innF f zs.length ⟨segT zs ++ tl, a, 0⟩ l = f ⟨tl, a', 0⟩ (l ++ zs)
  | [], tl, a, l, _, _ => ⟨a, by rw [List.append_nil]; rfl⟩
  | z :: zs, tl, a, l, h, h' => by
    simp only [List.all_cons, Bool.and_eq_true] at h
    have hz := (asB_iff z).1 h.1
    have e : segT (z :: zs) ++ tl = be (z % 18446744073709551616) 2 ++ (segT zs ++ tl) := by rw [segT_cons, List.append_assoc]
    obtain ⟨h1, h2⟩ := num_app7 (be (z % 18446744073709551616) 2) (segT zs ++ tl) a 2 (be_len _ _)
    have h3 : numV ⟨segT (z :: zs) ++ tl, a, 0⟩ 2 = z := by rw [e, h1, getN_two]; omega
    have h4 : nx2 ⟨segT (z :: zs) ++ tl, a, 0⟩ = ⟨segT zs ++ tl, a + (2 : Nat), 0⟩ := by rw [e]; exact h2
    obtain ⟨a', ih⟩ := inner_seg f zs tl (a + (2 : Nat)) (l ++ [z]) h.2 (by simp at h' ⊢; omega)
    refine ⟨a', ?_⟩
    show innF f (zs.length + 1) _ l = _
    rw [innF_go (by rw [h3, h4]; simp at h' ⊢; omega), h3, h4, ih, List.append_assoc]
    rfl
theorem path_seg (zs : List Int) (a : Int) (h : zs.all asB = true) (hl : zs.length ≤ 16) : pathP ⟨segL zs, a, 0⟩ [] = some zs := by
  unfold segL
  by_cases h0 : zs.length = 0
  · rw [if_pos h0, List.eq_nil_of_length_eq_zero h0]
    exact pathP_end (by unfold leftV; rw [if_pos rfl]; simp)
  · rw [if_neg h0]
    have e : [byOf 2, byOf zs.length] ++ segT zs = [byOf 2] ++ ([byOf zs.length] ++ (segT zs ++ [])) := by simp
    rw [e]
    obtain ⟨v1, t1⟩ := num_app7 [byOf 2] ([byOf zs.length] ++ (segT zs ++ [])) a 1 rfl
    obtain ⟨v2, t2⟩ := num_app7 [byOf zs.length] (segT zs ++ []) (a + (1 : Nat)) 1 rfl
    have eT : pkT ⟨[byOf 2] ++ ([byOf zs.length] ++ (segT zs ++ [])), a, 0⟩ = 2 := v1.trans (by rw [getN_one]; omega)
    have e1 : pkS1 ⟨[byOf 2] ++ ([byOf zs.length] ++ (segT zs ++ [])), a, 0⟩ = _ := t1
    have eN : pkN ⟨[byOf 2] ++ ([byOf zs.length] ++ (segT zs ++ [])), a, 0⟩ = zs.length := ((congrArg (fun s => numV s 1) e1).trans v2).trans (by rw [getN_one]; omega)
    have e2 : pkS2 ⟨[byOf 2] ++ ([byOf zs.length] ++ (segT zs ++ [])), a, 0⟩ = _ := (congrArg (fun s => (tk s 1).1) e1).trans t2
    have hb : badSeg ⟨[byOf 2] ++ ([byOf zs.length] ++ (segT zs ++ [])), a, 0⟩ = false := by
      unfold badSeg
      rw [eT, eN]
      have h1 : ((zs.length : Int) == 0) = false := by rw [beq_eq_false_iff_ne]; omega
      rw [h1]; rfl
    have hl0 : 0 < leftV ⟨[byOf 2] ++ ([byOf zs.length] ++ (segT zs ++ [])), a, 0⟩ := leftV_app _ _ _
    rw [pathP_go hl0 hb, eN, e2, Int.toNat_natCast]
    obtain ⟨a', h2⟩ := inner_seg pathP zs [] (a + (1 : Nat) + (1 : Nat)) [] h (by simpa using hl)
    rw [h2]
    exact pathP_end (by unfold leftV; rw [if_pos rfl]; simp)
/-! cutting. -/
theorem rd_none (f t : Int) (v : List UInt8) (a : Int) (k : Nat) (hx : extB f = false) (hv : v.length ≤ 255) (h0 : 0 < k) (hk : k < 3 + v.length) : splitL ⟨(oneL f t v).take k, a, 0⟩ = none := by
  have e : oneL f t v = [byOf f] ++ ([byOf t] ++ ([byOf v.length] ++ v)) := by
    rw [oneL_ff hx, List.take_of_length_le hv, show min v.length 255 = v.length by omega]; simp
  have hlen : (oneL f t v).length = 3 + v.length := by rw [e]; simp; omega
  have hl : ((oneL f t v).take k).length = k := by rw [List.length_take]; omega
  refine splitL_no (by unfold leftV; rw [if_pos rfl, hl]; omega) fun he => ?_
  obtain ⟨s, hs⟩ : ∃ s : St, s = ⟨(oneL f t v).take k, a, 0⟩ := ⟨_, rfl⟩
  rw [← hs] at he
  have h3 : (rdS3 s).e = 0 := tk_e _ _ he
  have h2 : (rdS2 s).e = 0 := tk_e _ _ h3
  have h1 : (rdS1 s).e = 0 := tk_e _ _ h2
  have l1 : (rdS1 s).l.length + 1 = s.l.length := tk_lt s 1 h1
  have l2 : (rdS2 s).l.length + 1 = (rdS1 s).l.length := tk_lt (rdS1 s) 1 h2
  have l3 : (rdS3 s).l.length + rdK s = (rdS2 s).l.length := tk_lt (rdS2 s) (rdK s) h3
  have hK : 1 ≤ rdK s := by unfold rdK; split <;> omega
  have hsl : s.l.length = k := by rw [hs]; exact hl
  have hk3 : 3 ≤ k := by omega
  have e3 : (oneL f t v).take k = [byOf f] ++ ([byOf t] ++ ([byOf v.length] ++ v.take (k - 3))) := by
    rw [e]
    have : k = k - 3 + 1 + 1 + 1 := by omega
    rw [this]
    simp
  obtain ⟨v1, t1⟩ := num_app7 [byOf f] ([byOf t] ++ ([byOf v.length] ++ v.take (k - 3))) a 1 rfl
  obtain ⟨v2, t2⟩ := num_app7 [byOf t] ([byOf v.length] ++ v.take (k - 3)) (a + (1 : Nat)) 1 rfl
  obtain ⟨v3, t3⟩ := num_app7 [byOf v.length] (v.take (k - 3)) (a + (1 : Nat) + (1 : Nat)) 1 rfl
  rw [e3] at hs
  have eF : rdF s = f % 256 := by rw [hs]; exact v1.trans (getN_one f)
  have eK : rdK s = 1 := by unfold rdK; rw [eF, extB_mod, hx]; rfl
  have s1 : rdS1 s = _ := (congrArg (fun s => (tk s 1).1) hs).trans t1
  have s2 : rdS2 s = _ := (congrArg (fun s => (tk s 1).1) s1).trans t2
  have s3 : rdS3 s = ⟨v.take (k - 3), a + (1 : Nat) + (1 : Nat) + (1 : Nat), 0⟩ := by
    unfold rdS3; rw [eK, s2]; exact t3
  have eZ : rdZ s = v.length := by
    unfold rdZ; rw [eK, s2]; exact v3.trans (by rw [getN_one]; omega)
  have l4 := tk_lt (rdS3 s) v.length (by rw [← eZ]; exact he)
  rw [s3] at l4
  simp only [List.length_take] at l4
  omega
theorem split_cut (f t : Int) (v : List UInt8) (k : Nat) (hx : extB f = false) (hv : v.length ≤ 255) (h0 : 0 < k) (hk : k < 3 + v.length) : ∀ (xs : List RawD) (a : Int), splitL ⟨joinD xs ++ (oneL f t v).take k, a, 0⟩ = none
  | [], a => by rw [show joinD [] ++ (oneL f t v).take k = (oneL f t v).take k from rfl]; exact rd_none f t v a k hx hv h0 hk
  | (g, u, y) :: xs, a => by
    have e : joinD ((g, u, y) :: xs) ++ (oneL f t v).take k = oneL g u y ++ (joinD xs ++ (oneL f t v).take k) := by
      rw [show joinD ((g, u, y) :: xs) = oneL g u y ++ joinD xs from rfl, List.append_assoc]
    rw [e]
    obtain ⟨h1, h2, h3, ⟨a', h4⟩, h5⟩ := rd_one g u y (joinD xs ++ (oneL f t v).take k) a
    rw [splitL_go h5 (by rw [h4]), h4, split_cut f t v k hx hv h0 hk xs a']
    rfl
/-- plain attributes: short, with flags and types of one byte. -/
def PlainD (d : RawD) : Prop := extB d.1 = false ∧ d.2.2.length ≤ 255 ∧ cutD d = d
theorem take_join : ∀ (xs : List RawD) (k : Nat), (∀ d ∈ xs, PlainD d) → k < (joinD xs).length → ∃ (ys : List RawD) (d : RawD) (zs : List RawD) (j : Nat), xs = ys ++ d :: zs ∧ j < 3 + d.2.2.length ∧ (joinD xs).take k = joinD ys ++ (oneL d.1 d.2.1 d.2.2).take j
  | [], k, _, h => absurd h (by simp [joinD])
  | d :: xs, k, hp, h => by
    have hd := hp d (by simp)
    have e : joinD (d :: xs) = oneL d.1 d.2.1 d.2.2 ++ joinD xs := rfl
    have hlen : (oneL d.1 d.2.1 d.2.2).length = 3 + d.2.2.length := by
      rw [oneL_ff hd.1, List.take_of_length_le hd.2.1]; simp; omega
    by_cases hk : k < 3 + d.2.2.length
    · refine ⟨[], d, xs, k, rfl, hk, ?_⟩
      rw [e, List.take_append_of_le_length (by omega)]; rfl
    · rw [e, List.length_append, hlen] at h
      obtain ⟨ys, d2, zs, j, h1, h2, h3⟩ := take_join xs (k - (3 + d.2.2.length)) (fun d hd => hp d (List.mem_cons_of_mem _ hd)) (by omega)
      refine ⟨d :: ys, d2, zs, j, by rw [h1]; rfl, h2, ?_⟩
      rw [e, List.take_append, hlen, h3, List.take_of_length_le (by omega)]
      rw [show joinD (d :: ys) = oneL d.1 d.2.1 d.2.2 ++ joinD ys from rfl, List.append_assoc]
section
variable {o : Int} {zs : List Int} {h m : Int} {b : Bool} (hg : goodA o zs h m b = true)
include hg
theorem good_parts : (0 ≤ o ∧ o ≤ 2) ∧ hopV h = true ∧ zs.length ≤ 16 ∧ zs.all asB = true ∧ (b = true → 0 ≤ m ∧ m ≤ 4294967295) ∧ (b = false → m = 0) := by
  unfold goodA at hg
  simp only [Bool.and_eq_true, decide_eq_true_eq] at hg
  refine ⟨hg.1.1.1.1, hg.1.1.1.2, hg.1.1.2, hg.1.2, fun hb => ?_, fun hb => ?_⟩
  · have := hg.2; unfold medB at this; rw [hb] at this; simpa using this
  · have := hg.2; unfold medB at this; rw [hb] at this; simpa using this
theorem attrs_plain : ∀ d ∈ attrsD o zs h m b, PlainD d := by
  obtain ⟨ho, _, hz, _⟩ := good_parts hg
  have hseg : (segL zs).length ≤ 34 := by
    unfold segL
    split
    · simp
    · have := segT_len zs; simp; omega
  have p1 : ∀ (t : Int) (v : List UInt8), 0 ≤ t → t ≤ 255 → v.length ≤ 255 → PlainD (64, t, v) := fun t v h0 h1 h2 => ⟨by rfl, h2, by
    unfold cutD
    have : cutK 64 = 255 := by rfl
    simp only [this]
    rw [List.take_of_length_le h2, show t % 256 = t by omega]; rfl⟩
  intro d hd
  unfold attrsD at hd
  rcases List.mem_append.1 hd with hd | hd
  · simp only [List.mem_cons, List.not_mem_nil, or_false] at hd
    rcases hd with rfl | rfl | rfl
    · exact p1 1 _ (by omega) (by omega) (by simp)
    · exact p1 2 _ (by omega) (by omega) (by omega)
    · exact p1 3 _ (by omega) (by omega) (by rw [be_len]; omega)
  · cases b with
    | false => simp at hd
    | true =>
      simp only [if_true, List.mem_singleton] at hd
      subst hd
      exact ⟨by rfl, by rw [be_len]; omega, by
        unfold cutD
        have : cutK 128 = 255 := by rfl
        simp only [this]
        rw [List.take_of_length_le (by rw [be_len]; omega)]; rfl⟩
theorem attrs_cut : (attrsD o zs h m b).map cutD = attrsD o zs h m b := by
  have := attrs_plain hg
  rw [List.map_congr_left (g := id) fun d hd => (this d hd).2.2, List.map_id]
theorem take_o (a : AttV) : takeS a 64 1 [byOf o] = .ok { a with o := o } := by
  obtain ⟨ho, _⟩ := good_parts hg
  have hb : byAt [byOf o] 0 = o := by
    have : byAt [byOf o] 0 = ((byOf o).toNat : Int) := rfl
    rw [this, byOf_val]; omega
  unfold takeS
  rw [if_pos rfl, if_neg (by decide), if_neg (by simp), if_neg (by rw [hb]; omega), hb]
theorem take_p (a : AttV) : takeS a 64 2 (segL zs) = .ok { a with zs := zs } := by
  obtain ⟨_, _, hz, hall, _⟩ := good_parts hg
  unfold takeS
  rw [if_neg (by decide), if_pos rfl, if_neg (by decide), path_seg zs 0 hall hz]
theorem take_h (a : AttV) (h0 : 0 ≤ h) (h1 : h ≤ 4294967295) : takeS a 64 3 (be h 4) = .ok { a with h := h } := by
  obtain ⟨_, hh, _⟩ := good_parts hg
  have e : getN (be h 4) 4 = h := by rw [getN_be4']; omega
  unfold takeS
  rw [if_neg (by decide), if_neg (by decide), if_pos rfl, if_neg (by decide), if_neg (by rw [be_len]; simp), e, hh, if_neg (by decide)]
theorem take_m (a : AttV) (hb : b = true) : takeS a 128 4 (be (m % 4294967296) 4) = .ok { a with m := m, b := true } := by
  obtain ⟨_, _, _, _, hm, _⟩ := good_parts hg
  have hm := hm hb
  have e : getN (be (m % 4294967296) 4) 4 = m := by rw [getN_be4']; omega
  unfold takeS
  rw [if_neg (by decide), if_neg (by decide), if_neg (by decide), if_pos rfl, if_neg (by decide), if_neg (by rw [be_len]; simp), e]
theorem attrsB_eq : attrsB o zs h m b = joinD (attrsD o zs h m b) := if_pos hg
theorem split_attrs (more : List RawD) : splitL ⟨joinD (attrsD o zs h m b ++ more), 0, 0⟩ = some (attrsD o zs h m b ++ more.map cutD) := by
  rw [splitL_join, List.map_append, attrs_cut hg]
/-- all of it taken. -/
def tsOf (b : Bool) : List Int := if b then [4, 3, 2, 1] else [3, 2, 1]
theorem parse_attrs (more : List RawD) (h0 : 0 ≤ h) (h1 : h ≤ 4294967295) : parseG (attrsD o zs h m b ++ more) [] att0 = parseG more (tsOf b) ⟨o, zs, h, m, b⟩ := by
  have e : attrsD o zs h m b ++ more = (64, 1, [byOf o]) :: (64, 2, segL zs) :: (64, 3, be h 4) :: ((if b then [(128, 4, be (m % 4294967296) 4)] else []) ++ more) := rfl
  rw [e, parseG_go (d := (64, 1, [byOf o])) rfl (take_o hg att0), parseG_go (d := (64, 2, segL zs)) rfl (take_p hg _), parseG_go (d := (64, 3, be h 4)) rfl (take_h hg _ h0 h1)]
  cases hb : b with
  | false =>
    have hm := (good_parts hg).2.2.2.2.2 hb
    rw [hm]; rfl
  | true =>
    rw [hb] at hg
    show parseG ((128, 4, be (m % 4294967296) 4) :: ([] ++ more)) _ _ = _
    rw [parseG_go (d := (128, 4, be (m % 4294967296) 4)) rfl (take_m hg _ rfl)]
    rfl
theorem parseA_back (h0 : 0 ≤ h) (h1 : h ≤ 4294967295) : parseA (attrsB o zs h m b) = .ok ⟨o, zs, h, m, b⟩ := by
  have hs := split_attrs hg []
  rw [List.append_nil, List.map_nil, List.append_nil] at hs
  have hp := parse_attrs hg [] h0 h1
  rw [List.append_nil] at hp
  unfold parseA
  rw [attrsB_eq hg, hs]
  show parseG (attrsD o zs h m b) [] att0 = _
  rw [hp]
  cases b <;> rfl
theorem parseA_dup (h0 : 0 ≤ h) (h1 : h ≤ 4294967295) : parseA (attrsB o zs h m b ++ (attrsB o zs h m b).take 4) = .error (1, []) := by
  have e4 : (attrsB o zs h m b).take 4 = joinD [(64, 1, [byOf o])] := by
    rw [attrsB_eq hg]
    rfl
  have hc : cutD (64, 1, [byOf o]) = (64, 1, [byOf o]) := rfl
  unfold parseA
  rw [e4, attrsB_eq hg, ← joinD_app, split_attrs hg [(64, 1, [byOf o])]]
  show parseG (attrsD o zs h m b ++ [cutD (64, 1, [byOf o])]) [] att0 = _
  rw [parse_attrs hg _ h0 h1, hc, parseG_met (by cases b <;> rfl)]
theorem parseA_drop (h0 : 0 ≤ h) (h1 : h ≤ 4294967295) : parseA ((attrsB o zs h m b).drop 4) = .error (3, [1]) := by
  have e : (attrsB o zs h m b).drop 4 = joinD ((64, 2, segL zs) :: (64, 3, be h 4) :: (if b then [(128, 4, be (m % 4294967296) 4)] else [])) := by
    rw [attrsB_eq hg]
    rfl
  have hcut : ((64, 2, segL zs) :: (64, 3, be h 4) :: (if b then [(128, 4, be (m % 4294967296) 4)] else [])).map cutD = (64, 2, segL zs) :: (64, 3, be h 4) :: (if b then [(128, 4, be (m % 4294967296) 4)] else []) := by
    have := attrs_cut hg
    unfold attrsD at this
    simp only [List.map_cons, List.cons_append, List.nil_append, List.cons.injEq] at this
    simp only [List.map_cons]
    rw [this.2.1, this.2.2.1, this.2.2.2]
  unfold parseA
  rw [e, splitL_join, hcut]
  show parseG ((64, 2, segL zs) :: (64, 3, be h 4) :: (if b then [(128, 4, be (m % 4294967296) 4)] else [])) [] att0 = _
  rw [parseG_go (d := (64, 2, segL zs)) rfl (take_p hg _), parseG_go (d := (64, 3, be h 4)) rfl (take_h hg _ h0 h1)]
  cases hb : b with
  | false => rfl
  | true =>
    rw [hb] at hg
    show parseG [(128, 4, be (m % 4294967296) 4)] _ _ = _
    rw [parseG_go (d := (128, 4, be (m % 4294967296) 4)) rfl (take_m hg _ rfl)]
    rfl
theorem parseA_cut (h0 : 0 ≤ h) (h1 : h ≤ 4294967295) (k : Nat) (hk : k < (attrsB o zs h m b).length) : (∃ x, parseA ((attrsB o zs h m b).take k) = .error x) ∨ parseA ((attrsB o zs h m b).take k) = .ok ⟨o, zs, h, 0, false⟩ := by
  rw [attrsB_eq hg] at hk ⊢
  obtain ⟨ys, d, rest, j, e1, e2, e3⟩ := take_join _ k (attrs_plain hg) hk
  rw [e3]
  have hd := attrs_plain hg d (by rw [e1]; simp)
  by_cases hj : j = 0
  · subst hj
    rw [List.take_zero, List.append_nil]
    have hy : ys.map cutD = ys := by
      rw [List.map_congr_left (g := id) fun d hd => (attrs_plain hg d (by rw [e1]; exact List.mem_append_left _ hd)).2.2, List.map_id]
    unfold parseA
    rw [splitL_join, hy]
    show (∃ x, parseG ys [] att0 = .error x) ∨ parseG ys [] att0 = _
    have hyl : ys = (attrsD o zs h m b).take ys.length := by rw [e1]; simp
    have hlt : ys.length < (attrsD o zs h m b).length := by rw [e1]; simp
    have hl4 : (attrsD o zs h m b).length ≤ 4 := by unfold attrsD; cases b <;> simp
    have p1 := take_o hg att0
    have p2 := take_p hg { att0 with o := o }
    have p3 := take_h hg { { att0 with o := o } with zs := zs } h0 h1
    rcases (show ys.length = 0 ∨ ys.length = 1 ∨ ys.length = 2 ∨ ys.length = 3 by omega) with hy0 | hy0 | hy0 | hy0 <;> rw [hy0] at hyl
    · left; rw [hyl]; exact ⟨_, rfl⟩
    · left
      have : ys = [(64, 1, [byOf o])] := hyl
      rw [this, parseG_go (d := (64, 1, [byOf o])) rfl p1]; exact ⟨_, rfl⟩
    · left
      have : ys = [(64, 1, [byOf o]), (64, 2, segL zs)] := hyl
      rw [this, parseG_go (d := (64, 1, [byOf o])) rfl p1, parseG_go (d := (64, 2, segL zs)) rfl p2]; exact ⟨_, rfl⟩
    · right
      have : ys = [(64, 1, [byOf o]), (64, 2, segL zs), (64, 3, be h 4)] := hyl
      rw [this, parseG_go (d := (64, 1, [byOf o])) rfl p1, parseG_go (d := (64, 2, segL zs)) rfl p2, parseG_go (d := (64, 3, be h 4)) rfl p3]; rfl
  · left
    unfold parseA
    rw [split_cut d.1 d.2.1 d.2.2 j hd.1 hd.2.1 (by omega) e2]
    exact ⟨_, rfl⟩
theorem attrsB_len : 14 ≤ (attrsB o zs h m b).length ∧ (attrsB o zs h m b).length ≤ 56 := by
  obtain ⟨_, _, hz, _⟩ := good_parts hg
  have hseg : (segL zs).length ≤ 34 := by
    unfold segL
    split
    · simp
    · have := segT_len zs; simp; omega
  have h2 : (oneL 64 2 (segL zs)).length = 3 + (segL zs).length := by rw [oneL_ff (by rfl), List.take_of_length_le (by omega)]; simp; omega
  have e : attrsB o zs h m b = oneL 64 1 [byOf o] ++ (oneL 64 2 (segL zs) ++ (oneL 64 3 (be h 4) ++ joinD (if b then [(128, 4, be (m % 4294967296) 4)] else []))) := by rw [attrsB_eq hg]; rfl
  have l1 : (oneL 64 1 [byOf o]).length = 4 := rfl
  have l3 : (oneL 64 3 (be h 4)).length = 7 := rfl
  have l4 : (joinD (if b then [(128, 4, be (m % 4294967296) 4)] else [])).length ≤ 7 := by cases b <;> simp [joinD] <;> exact Nat.le_refl 7
  rw [e, List.length_append, List.length_append, List.length_append, l1, h2, l3]
  omega
end
end Go.Proofs.Ytfnclmacodchfaa
