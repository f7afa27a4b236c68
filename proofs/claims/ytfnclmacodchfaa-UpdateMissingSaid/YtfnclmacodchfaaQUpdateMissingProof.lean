import Derived.Test.YtfnclmacodchfaaPgP
import Derived.Test.YtfnclmacodchfaaAtQ
import Derived.Test.YtfnclmacodchfaaPfQ
import Derived.Test.YtfnclmacodchfaaLib
import Derived.Test.YtfnclmacodchfaaPfJ
import Derived.Test.YtfnclmacodchfaaRow2
import Derived.Test.YtfnclmacodchfaaLate
import Derived.Test.YtfnclmacodchfaaPgA
import Derived.Test.YtfnclmacodchfaaRows
/- update: a body's bytes, parsed: plain laws. -/
namespace Go.Proofs.Ytfnclmacodchfaa
set_option linter.unusedVariables false
open Go Go.RowKit

theorem pow_split (j k : Nat) (h : k ≤ j) : (2 : Int) ^ j = 2 ^ (j - k) * 2 ^ k := by rw [← Int.pow_add]; congr 1; omega
theorem cut_mod (a : Int) (c : Nat) : cutA a c % 2 ^ (32 - c) = 0 := by unfold cutA; exact Int.mul_emod_left _ _
theorem cut_cut (a : Int) (c : Nat) : cutA (cutA a c) c = cutA a c := by
  unfold cutA
  rw [Int.mul_ediv_cancel _ (Int.ne_of_gt (Int.pow_pos (by decide)))]
theorem mod_less (y : Int) (j k : Nat) (h : y % 2 ^ j = 0) (hk : k ≤ j) : y % 2 ^ k = 0 := by
  have h1 := Int.dvd_of_emod_eq_zero h
  rw [pow_split j k hk] at h1
  exact Int.emod_eq_zero_of_dvd (Int.dvd_trans (Int.dvd_mul_left _ _) h1)
theorem getN_oct (y : Int) (k : Nat) (hk : k ≤ 4) (h0 : 0 ≤ y) (h1 : y ≤ 4294967295) (hm : y % 2 ^ (32 - 8 * k) = 0) : getN ((be y 4).take k) 4 = y := by
  have e : ∀ l : List UInt8, getN l 4 = ((byAt l 0 * 256 + byAt l 1) * 256 + byAt l 2) * 256 + byAt l 3 := fun l => by simp [getN]
  have b0 : byAt (be y 4) 0 = y / 2 ^ (8 * 3) % 256 := byOf_val _
  have b1 : byAt (be y 4) 1 = y / 2 ^ (8 * 2) % 256 := byOf_val _
  have b2 : byAt (be y 4) 2 = y / 2 ^ (8 * 1) % 256 := byOf_val _
  have b3 : byAt (be y 4) 3 = y / 2 ^ (8 * 0) % 256 := byOf_val _
  have t : ∀ j, byAt ((be y 4).take k) j = if j < k then byAt (be y 4) j else 0 := fun j => by
    unfold byAt
    rw [List.getElem?_take]
    split <;> simp
  rw [e, t 0, t 1, t 2, t 3, b0, b1, b2, b3]
  match k, hk with
  | 0, _ => simp at hm ⊢; omega
  | 1, _ => simp at hm ⊢; omega
  | 2, _ => simp at hm ⊢; omega
  | 3, _ => simp at hm ⊢; omega
  | 4, _ => simp at hm ⊢; omega
def canonP (p : Int × Int) : Int × Int := (cutA p.1 (clampN p.2), (clampN p.2 : Int))
theorem pf_read (a n : Int) (tl : List UInt8) (at_ : Int) (h0 : 0 ≤ a) (h1 : a ≤ 4294967295) : 0 < leftV ⟨pfB a n ++ tl, at_, 0⟩ ∧ pdP ⟨pfB a n ++ tl, at_, 0⟩ = canonP (a, n) ∧ ∃ a', nxP ⟨pfB a n ++ tl, at_, 0⟩ = ⟨tl, a', 0⟩ := by
  have hc := clampN_le n
  have ho := octN_le (clampN n) hc
  have hy := cut_bd a (clampN n) h0
  have e : pfB a n ++ tl = [byOf (clampN n)] ++ ((be (cutA a (clampN n)) 4).take (octN (clampN n)) ++ tl) := by unfold pfB; rfl
  have hl : ((be (cutA a (clampN n)) 4).take (octN (clampN n))).length = octN (clampN n) := by rw [List.length_take, be_len]; omega
  obtain ⟨v1, t1⟩ := num_app7 [byOf (clampN n)] ((be (cutA a (clampN n)) 4).take (octN (clampN n)) ++ tl) at_ 1 rfl
  have eN : pdN ⟨pfB a n ++ tl, at_, 0⟩ = clampN n := by rw [e]; exact v1.trans (by rw [getN_one]; omega)
  have eS : pdS1 ⟨pfB a n ++ tl, at_, 0⟩ = ⟨(be (cutA a (clampN n)) 4).take (octN (clampN n)) ++ tl, at_ + (1 : Nat), 0⟩ := by rw [e]; exact t1
  have eO : pdO ⟨pfB a n ++ tl, at_, 0⟩ = ((octN (clampN n) : Nat) : Int) := by unfold pdO; rw [eN, Int.toNat_natCast]
  have hk := tk_app ((be (cutA a (clampN n)) 4).take (octN (clampN n))) tl (at_ + (1 : Nat)) (octN (clampN n)) hl
  have eV : pdV ⟨pfB a n ++ tl, at_, 0⟩ = (be (cutA a (clampN n)) 4).take (octN (clampN n)) := by unfold pdV; rw [eS, eO, hk]
  have eS2 : pdS2 ⟨pfB a n ++ tl, at_, 0⟩ = ⟨tl, at_ + (1 : Nat) + (octN (clampN n) : Nat), 0⟩ := by unfold pdS2; rw [eS, eO, hk]
  have eA : pdA ⟨pfB a n ++ tl, at_, 0⟩ = cutA a (clampN n) := by
    unfold pdA
    rw [eV]
    refine getN_oct _ _ ho hy.1 (Int.le_trans hy.2 h1) (mod_less _ (32 - clampN n) _ (cut_mod _ _) ?_)
    unfold octN; omega
  refine ⟨by rw [e]; exact leftV_app _ _ _, ?_, ?_⟩
  · unfold pdP canonP
    rw [eA, eN, Int.toNat_natCast, cut_cut]
  · refine ⟨at_ + (1 : Nat) + (octN (clampN n) : Nat), ?_⟩
    unfold nxP
    rw [eN, if_pos (by omega), eS2]
theorem pfs_all : ∀ (ps : List (Int × Int)) (at_ : Int), (∀ p ∈ ps, 0 ≤ p.1 ∧ p.1 ≤ 4294967295) → pfsS ⟨pfAll ps, at_, 0⟩ = some (ps.map canonP)
  | [], at_, _ => seqL_end (by show ¬ 0 < leftV ⟨[], at_, 0⟩; unfold leftV; rw [if_pos rfl]; simp)
  | p :: ps, at_, h => by
    have hp := h p (by simp)
    obtain ⟨h1, h2, a', h3⟩ := pf_read p.1 p.2 (pfAll ps) at_ hp.1 hp.2
    have e : pfAll (p :: ps) = pfB p.1 p.2 ++ pfAll ps := rfl
    rw [e, pfsS_go h1 (by rw [h3]), h2, h3, pfs_all ps a' fun q hq => h q (List.mem_cons_of_mem _ hq)]
    rfl
theorem parseP_all (ps : List (Int × Int)) (h : ∀ p ∈ ps, 0 ≤ p.1 ∧ p.1 ≤ 4294967295) : parseP (pfAll ps) = some (ps.map canonP) := pfs_all ps 0 h
theorem canon_good {ps : List (Int × Int)} (h : allP ps = true) : ps.map canonP = ps := by
  rw [List.map_congr_left (g := id) fun p hp => ?_, List.map_id]
  unfold allP at h
  have := List.all_eq_true.1 h p hp
  unfold goodP at this
  simp only [Bool.and_eq_true, beq_iff_eq] at this
  show canonP p = p
  unfold canonP
  rw [← this.1, ← this.2]
/-! the parts. -/
theorem part_app (X tl : List UInt8) (a : Int) (hX : X.length ≤ 65535) : prV ⟨cntB X ++ tl, a, 0⟩ = X ∧ ∃ a', prS ⟨cntB X ++ tl, a, 0⟩ = ⟨tl, a', 0⟩ := by
  have e : cntB X ++ tl = be ((X.length : Int) % 18446744073709551616) 2 ++ (X ++ tl) := by unfold cntB; rw [List.append_assoc]
  obtain ⟨v1, t1⟩ := num_app7 (be ((X.length : Int) % 18446744073709551616) 2) (X ++ tl) a 2 (be_len _ _)
  have eN : prN ⟨cntB X ++ tl, a, 0⟩ = (X.length : Nat) := by rw [e]; exact v1.trans (by rw [getN_two]; omega)
  have eS : prS1 ⟨cntB X ++ tl, a, 0⟩ = ⟨X ++ tl, a + (2 : Nat), 0⟩ := by rw [e]; exact t1
  have hk := tk_app X tl (a + (2 : Nat)) X.length rfl
  refine ⟨?_, a + (2 : Nat) + (X.length : Nat), ?_⟩
  · unfold prV; rw [eN, eS, hk]
  · unfold prS; rw [eN, eS, hk]
theorem rest_all (Z : List UInt8) (a : Int) : (tk ⟨Z, a, 0⟩ (leftV ⟨Z, a, 0⟩)).2 = Z ∧ (tk ⟨Z, a, 0⟩ (leftV ⟨Z, a, 0⟩)).1.e = 0 := by
  have hl : leftV ⟨Z, a, 0⟩ = ((Z.length : Nat) : Int) := by unfold leftV; rw [if_pos rfl]
  have hk := tk_app Z [] a Z.length rfl
  rw [List.append_nil] at hk
  rw [hl, hk]
  exact ⟨rfl, rfl⟩
theorem up_parts (X Y Z : List UInt8) (hX : X.length ≤ 65535) (hY : Y.length ≤ 65535) : upG (cntB X ++ (cntB Y ++ Z)) = X ∧ upA (cntB X ++ (cntB Y ++ Z)) = Y ∧ upR (cntB X ++ (cntB Y ++ Z)) = Z ∧ (upS3 (cntB X ++ (cntB Y ++ Z))).e = 0 := by
  obtain ⟨h1, a1, h2⟩ := part_app X (cntB Y ++ Z) 0 hX
  obtain ⟨h3, a2, h4⟩ := part_app Y Z a1 hY
  have e1 : upS1 (cntB X ++ (cntB Y ++ Z)) = ⟨cntB Y ++ Z, a1, 0⟩ := h2
  have e2 : upS2 (cntB X ++ (cntB Y ++ Z)) = ⟨Z, a2, 0⟩ := by unfold upS2; rw [e1, h4]
  obtain ⟨h5, h6⟩ := rest_all Z a2
  refine ⟨h1, ?_, ?_, ?_⟩
  · unfold upA; rw [e1, h3]
  · unfold upR; rw [e2, h5]
  · unfold upS3; rw [e2, h6]
theorem part_cut (X tl : List UInt8) (a : Int) (m : Nat) (hX : X.length ≤ 65535) (he : (prS ⟨(cntB X ++ tl).take m, a, 0⟩).e = 0) (hm : m ≤ (cntB X ++ tl).length) : 2 + X.length ≤ m ∧ ∃ a', prS ⟨(cntB X ++ tl).take m, a, 0⟩ = ⟨tl.take (m - (2 + X.length)), a', 0⟩ := by
  have e : cntB X ++ tl = be ((X.length : Int) % 18446744073709551616) 2 ++ (X ++ tl) := by unfold cntB; rw [List.append_assoc]
  have hlen : ((cntB X ++ tl).take m).length = m := by rw [List.length_take]; omega
  have h1 : (prS1 ⟨(cntB X ++ tl).take m, a, 0⟩).e = 0 := tk_e _ _ he
  have l1 : (prS1 ⟨(cntB X ++ tl).take m, a, 0⟩).l.length + 2 = ((cntB X ++ tl).take m).length := tk_lt _ 2 h1
  have hm2 : 2 ≤ m := by omega
  have et : (cntB X ++ tl).take m = be ((X.length : Int) % 18446744073709551616) 2 ++ (X ++ tl).take (m - 2) := by
    rw [e, List.take_append, be_len, List.take_of_length_le (by rw [be_len]; omega)]
  obtain ⟨v1, t1⟩ := num_app7 (be ((X.length : Int) % 18446744073709551616) 2) ((X ++ tl).take (m - 2)) a 2 (be_len _ _)
  have eN : prN ⟨(cntB X ++ tl).take m, a, 0⟩ = (X.length : Nat) := by rw [et]; exact v1.trans (by rw [getN_two]; omega)
  have eS : prS1 ⟨(cntB X ++ tl).take m, a, 0⟩ = ⟨(X ++ tl).take (m - 2), a + (2 : Nat), 0⟩ := by rw [et]; exact t1
  have l2 := tk_lt (prS1 ⟨(cntB X ++ tl).take m, a, 0⟩) X.length (by rw [← eN]; exact he)
  have hX2 : 2 + X.length ≤ m := by omega
  refine ⟨hX2, ?_⟩
  have et2 : (X ++ tl).take (m - 2) = X ++ tl.take (m - (2 + X.length)) := by
    rw [List.take_append, List.take_of_length_le (by omega)]; congr 2; omega
  have hk := tk_app X (tl.take (m - (2 + X.length))) (a + (2 : Nat)) X.length rfl
  refine ⟨a + (2 : Nat) + (X.length : Nat), ?_⟩
  unfold prS
  rw [eN, eS, et2, hk]
theorem up_cut (X Y Z : List UInt8) (m : Nat) (hX : X.length ≤ 65535) (hY : Y.length ≤ 65535) (hm : m < 2 + X.length + (2 + Y.length)) : parseU ((cntB X ++ (cntB Y ++ Z)).take m) = .error (1, []) := by
  refine parseU_short fun he => ?_
  have h2 : (upS2 ((cntB X ++ (cntB Y ++ Z)).take m)).e = 0 := tk_e _ _ he
  have h1b : (prS1 (upS1 ((cntB X ++ (cntB Y ++ Z)).take m))).e = 0 := tk_e _ _ h2
  have h1 : (upS1 ((cntB X ++ (cntB Y ++ Z)).take m)).e = 0 := tk_e _ _ h1b
  have hlen : (cntB X ++ (cntB Y ++ Z)).length = 2 + X.length + (2 + Y.length + Z.length) := by rw [List.length_append, List.length_append, cntB_len, cntB_len]
  obtain ⟨hx, a1, e1⟩ := part_cut X (cntB Y ++ Z) 0 m hX h1 (by omega)
  have e1' : upS1 ((cntB X ++ (cntB Y ++ Z)).take m) = ⟨(cntB Y ++ Z).take (m - (2 + X.length)), a1, 0⟩ := e1
  have h2' : (prS ⟨(cntB Y ++ Z).take (m - (2 + X.length)), a1, 0⟩).e = 0 := by rw [← e1']; exact h2
  obtain ⟨hy, _⟩ := part_cut Y Z a1 (m - (2 + X.length)) hY h2' (by rw [List.length_append, cntB_len]; omega)
  omega
/-! the whole. -/
theorem sameA_zero {o : Int} {zs : List Int} {h m : Int} {b : Bool} (e : sameA o zs h m b 0 [] 0 0 false = true) : (⟨o, zs, h, m, b⟩ : AttV) = att0 := by
  unfold sameA intsEq at e
  simp only [Bool.and_eq_true, beq_iff_eq, decide_eq_true_eq] at e
  obtain ⟨⟨⟨⟨rfl, rfl⟩, rfl⟩, rfl⟩, rfl⟩ := e
  rfl
theorem parse_body {l1 l2 : List (Int × Int)} {o : Int} {zs : List Int} {h m : Int} {b : Bool} (hg : goodU l1 l2 o zs h m b = true) (b1 : ∀ p ∈ l1, 0 ≤ p.1 ∧ p.1 ≤ 4294967295) (b2 : ∀ p ∈ l2, 0 ≤ p.1 ∧ p.1 ≤ 4294967295) (h0 : 0 ≤ h) (h1 : h ≤ 4294967295)
    (hX : (pfAll l1).length ≤ 65535) : parseU (bodyB l1 l2 o zs h m b) = .ok (l1, ⟨o, zs, h, m, b⟩, l2) := by
  have hal := attU_le l2 o zs h m b
  have e : bodyB l1 l2 o zs h m b = cntB (pfAll l1) ++ (cntB (attU l2 o zs h m b) ++ pfAll l2) := by unfold bodyB; rw [List.append_assoc]
  obtain ⟨p1, p2, p3, p4⟩ := up_parts (pfAll l1) (attU l2 o zs h m b) (pfAll l2) hX (by omega)
  rw [← e] at p1 p2 p3 p4
  have hall : (allP l1 && allP l2) = true := by
    cases hx : (allP l1 && allP l2)
    · rw [goodU_no hx] at hg; cases hg
    · rfl
  have ha : allP l1 = true ∧ allP l2 = true := by simpa using hall
  have q1 : parseP (upG (bodyB l1 l2 o zs h m b)) = some l1 := by rw [p1, parseP_all l1 b1, canon_good ha.1]
  have q2 : parseP (upR (bodyB l1 l2 o zs h m b)) = some l2 := by rw [p3, parseP_all l2 b2, canon_good ha.2]
  by_cases hn : l2.length = 0
  · have hs := goodU_nil (o := o) (zs := zs) (h := h) (m := m) (b := b) hall hn
    rw [hg] at hs
    rw [parseU_nil p4 q1 q2 ⟨by rw [p2]; unfold attU; rw [if_pos hn]; rfl, hn⟩, sameA_zero hs.symm]
  · have hs := goodU_some (o := o) (zs := zs) (h := h) (m := m) (b := b) hall hn
    rw [hg] at hs
    have hA : parseA (upA (bodyB l1 l2 o zs h m b)) = .ok ⟨o, zs, h, m, b⟩ := by
      rw [p2]; unfold attU; rw [if_neg hn]; exact parseA_back hs.symm h0 h1
    exact parseU_att p4 q1 q2 (fun q => hn q.2) hA (by omega)
theorem parseA_none : parseA [] = .error (3, [1]) := by
  have h : splitL ⟨[], 0, 0⟩ = some [] := splitL_join [] 0
  unfold parseA
  rw [h]
  rfl
theorem parseA_four {o : Int} {zs : List Int} {h m : Int} {b : Bool} (hg : goodA o zs h m b = true) : parseA ((attrsB o zs h m b).take 4) = .error (3, [2]) := by
  have e4 : (attrsB o zs h m b).take 4 = joinD [(64, 1, [byOf o])] := by
    rw [attrsB_eq hg]
    rfl
  have hc : cutD (64, 1, [byOf o]) = (64, 1, [byOf o]) := rfl
  unfold parseA
  rw [e4, splitL_join, List.map_cons, hc, List.map_nil]
  show parseG [(64, 1, [byOf o])] [] att0 = _
  rw [parseG_go (d := (64, 1, [byOf o])) rfl (take_o hg att0)]
  rfl
theorem cnt_nil : cntB [] = [0, 0] := by decide
/-- NLRI without attributes. -/
theorem parse_no_att (l : List (Int × Int)) (b1 : ∀ p ∈ l, 0 ≤ p.1 ∧ p.1 ≤ 4294967295) (hl : 0 < l.length) : parseU ([0, 0, 0, 0] ++ pfAll l) = .error (3, [1]) := by
  have e : ([0, 0, 0, 0] ++ pfAll l : List UInt8) = cntB [] ++ (cntB [] ++ pfAll l) := by rw [cnt_nil]; rfl
  obtain ⟨p1, p2, p3, p4⟩ := up_parts [] [] (pfAll l) (by simp) (by simp)
  rw [e]
  have q1 : parseP (upG (cntB [] ++ (cntB [] ++ pfAll l))) = some [] := by rw [p1]; exact parseP_all [] (by simp)
  have q2 : parseP (upR (cntB [] ++ (cntB [] ++ pfAll l))) = some (l.map canonP) := by rw [p3]; exact parseP_all l b1
  exact parseU_err p4 q1 q2 (fun q => by rw [List.length_map] at q; omega) (by rw [p2]; exact parseA_none) (.inl (by rw [List.length_map]; exact hl))
/-- attributes without NLRI. -/
theorem parse_att {x : List UInt8} (hx : x.length ≤ 65535) (h4 : x.length ≠ 0) (hA : (∃ a, parseA x = .ok a) ∨ ∃ d, parseA x = .error (3, d)) : parseU ([0, 0] ++ (be (x.length : Int) 2 ++ x)) = .ok ([], att0, []) := by
  have e : ([0, 0] ++ (be (x.length : Int) 2 ++ x) : List UInt8) = cntB [] ++ (cntB x ++ []) := by
    rw [cnt_nil, List.append_nil]
    unfold cntB
    rw [show (x.length : Int) % 18446744073709551616 = x.length by omega]
  obtain ⟨p1, p2, p3, p4⟩ := up_parts [] x [] (by simp) hx
  rw [e]
  have q1 : parseP (upG (cntB [] ++ (cntB x ++ []))) = some [] := by rw [p1]; exact parseP_all [] (by simp)
  have q2 : parseP (upR (cntB [] ++ (cntB x ++ []))) = some [] := by rw [p3]; exact parseP_all [] (by simp)
  rcases hA with ⟨a, hA⟩ | ⟨d, hA⟩
  · exact parseU_ign p4 q1 q2 (fun q => h4 (by rw [← p2]; exact q.1)) (by rw [p2]; exact hA) (by simp)
  · exact parseU_mis p4 q1 q2 (fun q => h4 (by rw [← p2]; exact q.1)) (by rw [p2]; exact hA) (by simp)
end Go.Proofs.Ytfnclmacodchfaa

/- update: the document's body. -/
namespace Go.Proofs.Ytfnclmacodchfaa
set_option linter.unusedVariables false
open Go Go.RowKit

set_option maxRecDepth 100000 in
set_option maxHeartbeats 8000000 in
theorem refUpBody_any (w : World) (A1 : Option Addr) (n1 c1 : Nat) (l1 : List (Int × Int)) (o : Int) (A : Option Addr) (n c : Nat) (zs : List Int) (h m : Int) (b : Bool) (A2 : Option Addr) (n2 c2 : Nat) (l2 : List (Int × Int)) (u : UpR w A1 n1 l1 A n zs h A2 n2 l2) (z1 : n1 ≤ 100000) (z2 : n2 ≤ 100000) (z3 : n ≤ 100000) :
    Calls Try.prog 32 #[.agg #[.slice A1 n1 c1, .int .i64 o, .slice A n c, .int .u32 h, .int .i64 m, .bool b, .slice A2 n2 c2]] w fun e w' => ∃ v, e = .returned v ∧ OwnB w' w.heap.size v (bodyB l1 l2 o zs h m b).length (bodyB l1 l2 o zs h m b) ∧ Below w.heap.size w w' := by
  have hB := (Below.refl w.heap.size w).alloc (Nat.le_refl _) (.cells #[.slice A1 n1 c1, .int .i64 o, .slice A n c, .int .u32 h, .int .i64 m, .bool b, .slice A2 n2 c2] 33)
  have hp := Blk.new w 33 #[.slice A1 n1 c1, .int .i64 o, .slice A n c, .int .u32 h, .int .i64 m, .bool b, .slice A2 n2 c2]
  have hl2 := Lib.hid u.s2.1
  have hl1 := Lib.hid u.s1.1
  have hbod := Lib.hid (show bodyB l1 l2 o zs h m b = (be (((pfAll l1).length : Int) % 18446744073709551616) 2 ++ pfAll l1 ++ be (((attU l2 o zs h m b).length : Int) % 18446744073709551616) 2 ++ attU l2 o zs h m b) ++ pfAll l2 by unfold bodyB cntB; simp only [List.append_assoc])
  have hlen := Lib.hid (show (bodyB l1 l2 o zs h m b).length = 0 + 2 + (pfAll l1).length + 2 + (attU l2 o zs h m b).length + (pfAll l2).length by unfold bodyB; rw [List.length_append, List.length_append, cntB_len, cntB_len]; omega)
  have hal := attU_le l2 o zs h m b
  have hp1 := pfAll_len l1
  have hp2 := pfAll_len l2
  rw [hl1.out] at hp1
  rw [hl2.out] at hp2
  go_enter Try.func32, Try.ntmps32
  go_upto_region 1 with (fail)
  generalize w.alloc (.cells #[.slice A1 n1 c1, .int .i64 o, .slice A n c, .int .u32 h, .int .i64 m, .bool b, .slice A2 n2 c2] 33) = w1 at *
  have hz := hB.size
  have u1 := u.nx hB
  have q0 : w1.cell? ⟨w.heap.size, 0, none⟩ = some (.slice A1 n1 c1) := hp.cellv 0 rfl
  have q1 : w1.cell? ⟨w.heap.size, 1, none⟩ = some (.int .i64 o) := hp.cellv 1 rfl
  have q2 : w1.cell? ⟨w.heap.size, 2, none⟩ = some (.slice A n c) := hp.cellv 2 rfl
  have q3 : w1.cell? ⟨w.heap.size, 3, none⟩ = some (.int .u32 h) := hp.cellv 3 rfl
  have q4 : w1.cell? ⟨w.heap.size, 4, none⟩ = some (.int .i64 m) := hp.cellv 4 rfl
  have q5 : w1.cell? ⟨w.heap.size, 5, none⟩ = some (.bool b) := hp.cellv 5 rfl
  have q6 : w1.cell? ⟨w.heap.size, 6, none⟩ = some (.slice A2 n2 c2) := hp.cellv 6 rfl
  have ql := hp.lt
  go_upto_region 3 with (go_at_call 22; refine (refAll3_any w1 A1 n1 c1 l1 u1.s1 (by omega)).mono ?_; rintro e w2 ⟨v2, rfl, own2, hb2⟩; obtain ⟨A3, c3, rfl, hc3, hcm3, by3, hA3⟩ := own2.any2)
  have hp2' := hp.below hb2 hp.lt
  have hB2 := hB.trans (hb2.mono hz)
  have hz2 := hB2.size
  have u2 := u1.nx hb2
  clear q0 q1 q2 q3 q4 q5 q6 ql
  have q0 : w2.cell? ⟨w.heap.size, 0, none⟩ = some (.slice A1 n1 c1) := hp2'.cellv 0 rfl
  have q1 : w2.cell? ⟨w.heap.size, 1, none⟩ = some (.int .i64 o) := hp2'.cellv 1 rfl
  have q2 : w2.cell? ⟨w.heap.size, 2, none⟩ = some (.slice A n c) := hp2'.cellv 2 rfl
  have q3 : w2.cell? ⟨w.heap.size, 3, none⟩ = some (.int .u32 h) := hp2'.cellv 3 rfl
  have q4 : w2.cell? ⟨w.heap.size, 4, none⟩ = some (.int .i64 m) := hp2'.cellv 4 rfl
  have q5 : w2.cell? ⟨w.heap.size, 5, none⟩ = some (.bool b) := hp2'.cellv 5 rfl
  have q6 : w2.cell? ⟨w.heap.size, 6, none⟩ = some (.slice A2 n2 c2) := hp2'.cellv 6 rfl
  have ql := hp2'.lt
  by_cases h0 : n2 = 0
  · have hatt := Lib.hid (show attU l2 o zs h m b = [] by unfold attU; rw [if_pos (by rw [hl2.out]; exact h0)])
    have d0 : ¬ (0 < n2) := by omega
    have d1 : ¬ ((0 : Int) < n2) := by omega
    replace h0 := Lib.hid h0
    go_upto_region 5 with (fail)
    have by7 : Byt w2 w2.heap.size none 0 [] := Byt.none_
    have k1 : IntKind.u64.wrap ((pfAll l1).length : Int) = ((pfAll l1).length : Int) % 18446744073709551616 := IntKind.wrap_u64 _
    have k2 : IntKind.u64.wrap (0 : Int) = (0 : Int) % 18446744073709551616 := IntKind.wrap_u64 _
    have hzw := hB2.size
    go_upto_region 6 with (first
      | (go_at_call 71; refine (refPut2v w2 none 0 0 [] 0 Byt.none_ (by omega) (by omega) _).mono ?_; rintro e w4 ⟨v4, rfl, own4, hb4⟩; have by3 := by3.nx hb4; have hz4 := hb4.size)
      | (at_builtin; refine wpList_app _ rfl (.tmp 19) (.tmp 20) rfl w2.heap.size _ _ _ rfl own4 _ _ _ _ _ rfl by3 (by omega) hz4 ?_; intro v5 w5 own5 hg5 hd5; clear hd5; have hb5 := own4.below_app hg5 hz4))
    have hx5 := hb4.trans hb5
    have hz5 := hx5.size
    have by7 := (by7.below hx5).more hz5
    obtain ⟨A5, c5, rfl, hc5, hcm5, by5, hA5⟩ := own5.any2
    have hput := refPut2v w5 A5 _ c5 _ _ by5 (Nat.le_refl _) (by omega) (0 : Int)
    rw [show (0 : Int) % 18446744073709551616 = 0 from rfl] at hput
    go_upto_region 7 with (first
      | (go_at_call 71; refine hput.mono ?_; rintro e w6 ⟨v6, rfl, own6, hb6⟩; have by7 := by7.nx hb6; have hz6 := hb6.size)
      | (at_builtin; refine wpList_app _ rfl (.tmp 26) (.tmp 27) rfl w5.heap.size _ _ _ rfl own6 _ _ _ _ _ rfl by7 (by omega) hz6 ?_; intro v7 w7 own7 hg7 hd7; clear hd7; have hb7 := own6.below_app hg7 hz6))
    have hx7 := hx5.trans ((hb6.trans hb7).mono hz5)
    have hz7 := hx7.size
    have u7 := u2.nx hx7
    have hp7 := hp2'.below hx7 hp2'.lt
    clear q0 q1 q2 q3 q4 q5 q6 ql
    have q0 : w7.cell? ⟨w.heap.size, 0, none⟩ = some (.slice A1 n1 c1) := hp7.cellv 0 rfl
    have q1 : w7.cell? ⟨w.heap.size, 1, none⟩ = some (.int .i64 o) := hp7.cellv 1 rfl
    have q2 : w7.cell? ⟨w.heap.size, 2, none⟩ = some (.slice A n c) := hp7.cellv 2 rfl
    have q3 : w7.cell? ⟨w.heap.size, 3, none⟩ = some (.int .u32 h) := hp7.cellv 3 rfl
    have q4 : w7.cell? ⟨w.heap.size, 4, none⟩ = some (.int .i64 m) := hp7.cellv 4 rfl
    have q5 : w7.cell? ⟨w.heap.size, 5, none⟩ = some (.bool b) := hp7.cellv 5 rfl
    have q6 : w7.cell? ⟨w.heap.size, 6, none⟩ = some (.slice A2 n2 c2) := hp7.cellv 6 rfl
    have ql := hp7.lt
    go_wp2_with (first
      | (go_at_call 22; refine (refAll3_any w7 A2 n2 c2 l2 u7.s2 (by omega)).mono ?_; rintro e w8 ⟨v8, rfl, own8, hb8⟩; obtain ⟨A8, c8, rfl, hc8, hcm8, by8, hA8⟩ := own8.any2; have own7 := own7.below hb8; have hz8 := hb8.size)
      | (at_builtin; refine wpList_app _ rfl (.tmp 29) (.tmp 32) rfl w5.heap.size _ _ _ rfl own7 _ _ _ _ _ rfl by8 (by omega) (Nat.le_trans (hb6.trans hb7).size hz8) ?_; intro v9 w9 own9 hg9 hd9; clear hd9; have hb9 := own7.below_app hg9 (Nat.le_trans (hb6.trans hb7).size hz8)))
    go_ret
    have hx8 := hx7.trans (hb8.mono hz7)
    refine ⟨_, rfl, ?_, hB2.trans ((hx5.trans ((((hb6.trans hb7).trans (hb8.mono (hb6.trans hb7).size)).trans hb9).mono hz5)).mono hzw)⟩
    rw [hlen.out, hbod.out, hatt.out]
    rw [show ((([] : List UInt8).length : Int) % 18446744073709551616) = 0 from rfl]
    exact own9.less (Nat.le_trans hzw hz5)
  · have hatt := Lib.hid (show attU l2 o zs h m b = attrsB o zs h m b by unfold attU; rw [if_neg (by rw [hl2.out]; exact h0)])
    have d0 : 0 < n2 := by omega
    have d1 : (0 : Int) < n2 := by omega
    have hab := attrsB_le o zs h m b
    go_upto_region 5 with (go_at_call 70; refine (refBytes7_any w2 o A n c zs h m b u2.pa u2.h0 u2.h1 z3).mono ?_; rintro e w3 ⟨v3, rfl, own3, hb3⟩; obtain ⟨A7, c7, rfl, hc7, hcm7, by7, hA7⟩ := own3.any2)
    have by3 := by3.nx hb3
    have hp3 := hp2'.below hb3 hp2'.lt
    have hB3 := hB2.trans (hb3.mono hz2)
    have u3 := u2.nx hb3
    clear q0 q1 q2 q3 q4 q5 q6 ql
    have q0 : w3.cell? ⟨w.heap.size, 0, none⟩ = some (.slice A1 n1 c1) := hp3.cellv 0 rfl
    have q1 : w3.cell? ⟨w.heap.size, 1, none⟩ = some (.int .i64 o) := hp3.cellv 1 rfl
    have q2 : w3.cell? ⟨w.heap.size, 2, none⟩ = some (.slice A n c) := hp3.cellv 2 rfl
    have q3 : w3.cell? ⟨w.heap.size, 3, none⟩ = some (.int .u32 h) := hp3.cellv 3 rfl
    have q4 : w3.cell? ⟨w.heap.size, 4, none⟩ = some (.int .i64 m) := hp3.cellv 4 rfl
    have q5 : w3.cell? ⟨w.heap.size, 5, none⟩ = some (.bool b) := hp3.cellv 5 rfl
    have q6 : w3.cell? ⟨w.heap.size, 6, none⟩ = some (.slice A2 n2 c2) := hp3.cellv 6 rfl
    have ql := hp3.lt
    have k1 : IntKind.u64.wrap ((pfAll l1).length : Int) = ((pfAll l1).length : Int) % 18446744073709551616 := IntKind.wrap_u64 _
    have k2 : IntKind.u64.wrap ((attrsB o zs h m b).length : Int) = ((attrsB o zs h m b).length : Int) % 18446744073709551616 := IntKind.wrap_u64 _
    have hzw := hB3.size
    go_upto_region 6 with (first
      | (go_at_call 71; refine (refPut2v w3 none 0 0 [] 0 Byt.none_ (by omega) (by omega) _).mono ?_; rintro e w4 ⟨v4, rfl, own4, hb4⟩; have by3 := by3.nx hb4; have hz4 := hb4.size)
      | (at_builtin; refine wpList_app _ rfl (.tmp 19) (.tmp 20) rfl w3.heap.size _ _ _ rfl own4 _ _ _ _ _ rfl by3 (by omega) hz4 ?_; intro v5 w5 own5 hg5 hd5; clear hd5; have hb5 := own4.below_app hg5 hz4))
    have hx5 := hb4.trans hb5
    have hz5 := hx5.size
    have by7 := (by7.below hx5).more hz5
    obtain ⟨A5, c5, rfl, hc5, hcm5, by5, hA5⟩ := own5.any2
    have hput := refPut2v w5 A5 _ c5 _ _ by5 (Nat.le_refl _) (by omega) ((attrsB o zs h m b).length : Int)
    skip
    go_upto_region 7 with (first
      | (go_at_call 71; refine hput.mono ?_; rintro e w6 ⟨v6, rfl, own6, hb6⟩; have by7 := by7.nx hb6; have hz6 := hb6.size)
      | (at_builtin; refine wpList_app _ rfl (.tmp 26) (.tmp 27) rfl w5.heap.size _ _ _ rfl own6 _ _ _ _ _ rfl by7 (by omega) hz6 ?_; intro v7 w7 own7 hg7 hd7; clear hd7; have hb7 := own6.below_app hg7 hz6))
    have hx7 := hx5.trans ((hb6.trans hb7).mono hz5)
    have hz7 := hx7.size
    have u7 := u3.nx hx7
    have hp7 := hp3.below hx7 hp3.lt
    clear q0 q1 q2 q3 q4 q5 q6 ql
    have q0 : w7.cell? ⟨w.heap.size, 0, none⟩ = some (.slice A1 n1 c1) := hp7.cellv 0 rfl
    have q1 : w7.cell? ⟨w.heap.size, 1, none⟩ = some (.int .i64 o) := hp7.cellv 1 rfl
    have q2 : w7.cell? ⟨w.heap.size, 2, none⟩ = some (.slice A n c) := hp7.cellv 2 rfl
    have q3 : w7.cell? ⟨w.heap.size, 3, none⟩ = some (.int .u32 h) := hp7.cellv 3 rfl
    have q4 : w7.cell? ⟨w.heap.size, 4, none⟩ = some (.int .i64 m) := hp7.cellv 4 rfl
    have q5 : w7.cell? ⟨w.heap.size, 5, none⟩ = some (.bool b) := hp7.cellv 5 rfl
    have q6 : w7.cell? ⟨w.heap.size, 6, none⟩ = some (.slice A2 n2 c2) := hp7.cellv 6 rfl
    have ql := hp7.lt
    go_wp2_with (first
      | (go_at_call 22; refine (refAll3_any w7 A2 n2 c2 l2 u7.s2 (by omega)).mono ?_; rintro e w8 ⟨v8, rfl, own8, hb8⟩; obtain ⟨A8, c8, rfl, hc8, hcm8, by8, hA8⟩ := own8.any2; have own7 := own7.below hb8; have hz8 := hb8.size)
      | (at_builtin; refine wpList_app _ rfl (.tmp 29) (.tmp 32) rfl w5.heap.size _ _ _ rfl own7 _ _ _ _ _ rfl by8 (by omega) (Nat.le_trans (hb6.trans hb7).size hz8) ?_; intro v9 w9 own9 hg9 hd9; clear hd9; have hb9 := own7.below_app hg9 (Nat.le_trans (hb6.trans hb7).size hz8)))
    go_ret
    have hx8 := hx7.trans (hb8.mono hz7)
    refine ⟨_, rfl, ?_, hB3.trans ((hx5.trans ((((hb6.trans hb7).trans (hb8.mono (hb6.trans hb7).size)).trans hb9).mono hz5)).mono hzw)⟩
    rw [hlen.out, hbod.out, hatt.out]
    skip
    exact own9.less (Nat.le_trans hzw hz5)
end Go.Proofs.Ytfnclmacodchfaa

/- update: Size and Bytes, and the document's. -/
namespace Go.Proofs.Ytfnclmacodchfaa
set_option linter.unusedVariables false
open Go Go.RowKit

/-- a body's bytes. -/
def upB (l1 l2 : List (Int × Int)) (o : Int) (zs : List Int) (h m : Int) (b : Bool) : List UInt8 := if goodU l1 l2 o zs h m b = true ∧ (bodyB l1 l2 o zs h m b).length ≤ 4077 then bodyB l1 l2 o zs h m b else []
def upSize (l1 l2 : List (Int × Int)) (o : Int) (zs : List Int) (h m : Int) (b : Bool) : Int := if goodU l1 l2 o zs h m b = true then (bodyB l1 l2 o zs h m b).length else 0
set_option maxRecDepth 100000 in
set_option maxHeartbeats 4000000 in
theorem upSize_any (w : World) (A1 : Option Addr) (n1 c1 : Nat) (l1 : List (Int × Int)) (o : Int) (A : Option Addr) (n c : Nat) (zs : List Int) (h m : Int) (b : Bool) (A2 : Option Addr) (n2 c2 : Nat) (l2 : List (Int × Int)) (u : UpR w A1 n1 l1 A n zs h A2 n2 l2) (z1 : n1 ≤ 100000) (z2 : n2 ≤ 100000) (z3 : n ≤ 100000) : Calls Try.prog 14 #[.agg #[.slice A1 n1 c1, .int .i64 o, .slice A n c, .int .u32 h, .int .i64 m, .bool b, .slice A2 n2 c2]] w fun e w' => e = .returned (.int .i64 (upSize l1 l2 o zs h m b)) ∧ Below w.heap.size w w' := by
  have hB := (Below.refl w.heap.size w).alloc (Nat.le_refl _) (.cells #[.slice A1 n1 c1, .int .i64 o, .slice A n c, .int .u32 h, .int .i64 m, .bool b, .slice A2 n2 c2] 28)
  have hp := Blk.new w 28 #[.slice A1 n1 c1, .int .i64 o, .slice A n c, .int .u32 h, .int .i64 m, .bool b, .slice A2 n2 c2]
  have hlen : (bodyB l1 l2 o zs h m b).length ≤ 100000000 := by
    have hal := attU_le l2 o zs h m b
    have hp1 := pfAll_len l1
    have hp2 := pfAll_len l2
    have := u.s1.1
    have := u.s2.1
    unfold bodyB
    rw [List.length_append, List.length_append, cntB_len, cntB_len]
    omega
  go_enter Try.func14, Try.ntmps14
  go_upto_region 1 with (fail)
  generalize w.alloc (.cells #[.slice A1 n1 c1, .int .i64 o, .slice A n c, .int .u32 h, .int .i64 m, .bool b, .slice A2 n2 c2] 28) = w1 at *
  have hz := hB.size
  have u1 := u.nx hB
  have hgd := upGood_any w1 A1 n1 c1 l1 o A n c zs h m b A2 n2 c2 l2 u1 (by omega) (by omega) z3
  have q0 : w1.cell? ⟨w.heap.size, 0, none⟩ = some (.slice A1 n1 c1) := hp.cellv 0 rfl
  have q1 : w1.cell? ⟨w.heap.size, 1, none⟩ = some (.int .i64 o) := hp.cellv 1 rfl
  have q2 : w1.cell? ⟨w.heap.size, 2, none⟩ = some (.slice A n c) := hp.cellv 2 rfl
  have q3 : w1.cell? ⟨w.heap.size, 3, none⟩ = some (.int .u32 h) := hp.cellv 3 rfl
  have q4 : w1.cell? ⟨w.heap.size, 4, none⟩ = some (.int .i64 m) := hp.cellv 4 rfl
  have q5 : w1.cell? ⟨w.heap.size, 5, none⟩ = some (.bool b) := hp.cellv 5 rfl
  have q6 : w1.cell? ⟨w.heap.size, 6, none⟩ = some (.slice A2 n2 c2) := hp.cellv 6 rfl
  have ql := hp.lt
  cases hg : goodU l1 l2 o zs h m b
  · have e := Lib.hid (show (0 : Int) = upSize l1 l2 o zs h m b by unfold upSize; rw [hg]; rfl)
    rw [hg] at hgd
    replace hg := Lib.hid hg
    go_wp2_with (go_at_call 10; refine hgd.mono ?_; rintro e w2 ⟨rfl, hb2⟩; have hp2 := hp.below hb2 hp.lt; have u2 := u1.nx hb2; clear q0 q1 q2 q3 q4 q5 q6 ql; have q0 : w2.cell? ⟨w.heap.size, 0, none⟩ = some (.slice A1 n1 c1) := hp2.cellv 0 rfl; have q1 : w2.cell? ⟨w.heap.size, 1, none⟩ = some (.int .i64 o) := hp2.cellv 1 rfl; have q2 : w2.cell? ⟨w.heap.size, 2, none⟩ = some (.slice A n c) := hp2.cellv 2 rfl; have q3 : w2.cell? ⟨w.heap.size, 3, none⟩ = some (.int .u32 h) := hp2.cellv 3 rfl; have q4 : w2.cell? ⟨w.heap.size, 4, none⟩ = some (.int .i64 m) := hp2.cellv 4 rfl; have q5 : w2.cell? ⟨w.heap.size, 5, none⟩ = some (.bool b) := hp2.cellv 5 rfl; have q6 : w2.cell? ⟨w.heap.size, 6, none⟩ = some (.slice A2 n2 c2) := hp2.cellv 6 rfl; have ql := hp2.lt)
    go_ret
    exact ⟨ret_int e.out, hB.trans (hb2.mono hz)⟩
  · have e := Lib.hid (show ((bodyB l1 l2 o zs h m b).length : Int) = upSize l1 l2 o zs h m b by unfold upSize; rw [hg]; rfl)
    rw [hg] at hgd
    replace hg := Lib.hid hg
    go_wp2_with (first
      | (go_at_call 10; refine hgd.mono ?_; rintro e w2 ⟨rfl, hb2⟩; have hp2 := hp.below hb2 hp.lt; have u2 := u1.nx hb2; clear q0 q1 q2 q3 q4 q5 q6 ql; have q0 : w2.cell? ⟨w.heap.size, 0, none⟩ = some (.slice A1 n1 c1) := hp2.cellv 0 rfl; have q1 : w2.cell? ⟨w.heap.size, 1, none⟩ = some (.int .i64 o) := hp2.cellv 1 rfl; have q2 : w2.cell? ⟨w.heap.size, 2, none⟩ = some (.slice A n c) := hp2.cellv 2 rfl; have q3 : w2.cell? ⟨w.heap.size, 3, none⟩ = some (.int .u32 h) := hp2.cellv 3 rfl; have q4 : w2.cell? ⟨w.heap.size, 4, none⟩ = some (.int .i64 m) := hp2.cellv 4 rfl; have q5 : w2.cell? ⟨w.heap.size, 5, none⟩ = some (.bool b) := hp2.cellv 5 rfl; have q6 : w2.cell? ⟨w.heap.size, 6, none⟩ = some (.slice A2 n2 c2) := hp2.cellv 6 rfl; have ql := hp2.lt)
      | (go_at_call 31; refine (upBody_any w2 A1 n1 c1 l1 o A n c zs h m b A2 n2 c2 l2 u2 z1 z2 z3).mono ?_; rintro e w3 ⟨v3, rfl, own3, hb3⟩; obtain ⟨A3, c3, rfl, hc3, hcm3, by3, hA3⟩ := own3.any2; have hB3 := hB.trans ((hb2.trans (hb3.mono hb2.size)).mono hz)))
    go_ret
    exact ⟨ret_int e.out, hB3⟩
set_option maxRecDepth 100000 in
set_option maxHeartbeats 4000000 in
theorem upBytes_any (w : World) (A1 : Option Addr) (n1 c1 : Nat) (l1 : List (Int × Int)) (o : Int) (A : Option Addr) (n c : Nat) (zs : List Int) (h m : Int) (b : Bool) (A2 : Option Addr) (n2 c2 : Nat) (l2 : List (Int × Int)) (u : UpR w A1 n1 l1 A n zs h A2 n2 l2) (z1 : n1 ≤ 100000) (z2 : n2 ≤ 100000) (z3 : n ≤ 100000) : Calls Try.prog 12 #[.agg #[.slice A1 n1 c1, .int .i64 o, .slice A n c, .int .u32 h, .int .i64 m, .bool b, .slice A2 n2 c2]] w fun e w' => ∃ v, e = .returned v ∧ OwnB w' w.heap.size v (upB l1 l2 o zs h m b).length (upB l1 l2 o zs h m b) ∧ Below w.heap.size w w' := by
  have hB := (Below.refl w.heap.size w).alloc (Nat.le_refl _) (.cells #[.slice A1 n1 c1, .int .i64 o, .slice A n c, .int .u32 h, .int .i64 m, .bool b, .slice A2 n2 c2] 28)
  have hp := Blk.new w 28 #[.slice A1 n1 c1, .int .i64 o, .slice A n c, .int .u32 h, .int .i64 m, .bool b, .slice A2 n2 c2]
  have hlen : (bodyB l1 l2 o zs h m b).length ≤ 100000000 := by
    have hal := attU_le l2 o zs h m b
    have hp1 := pfAll_len l1
    have hp2 := pfAll_len l2
    have := u.s1.1
    have := u.s2.1
    unfold bodyB
    rw [List.length_append, List.length_append, cntB_len, cntB_len]
    omega
  go_enter Try.func12, Try.ntmps12
  go_upto_region 1 with (fail)
  generalize w.alloc (.cells #[.slice A1 n1 c1, .int .i64 o, .slice A n c, .int .u32 h, .int .i64 m, .bool b, .slice A2 n2 c2] 28) = w1 at *
  have hz := hB.size
  have u1 := u.nx hB
  have hgd := upGood_any w1 A1 n1 c1 l1 o A n c zs h m b A2 n2 c2 l2 u1 (by omega) (by omega) z3
  have q0 : w1.cell? ⟨w.heap.size, 0, none⟩ = some (.slice A1 n1 c1) := hp.cellv 0 rfl
  have q1 : w1.cell? ⟨w.heap.size, 1, none⟩ = some (.int .i64 o) := hp.cellv 1 rfl
  have q2 : w1.cell? ⟨w.heap.size, 2, none⟩ = some (.slice A n c) := hp.cellv 2 rfl
  have q3 : w1.cell? ⟨w.heap.size, 3, none⟩ = some (.int .u32 h) := hp.cellv 3 rfl
  have q4 : w1.cell? ⟨w.heap.size, 4, none⟩ = some (.int .i64 m) := hp.cellv 4 rfl
  have q5 : w1.cell? ⟨w.heap.size, 5, none⟩ = some (.bool b) := hp.cellv 5 rfl
  have q6 : w1.cell? ⟨w.heap.size, 6, none⟩ = some (.slice A2 n2 c2) := hp.cellv 6 rfl
  have ql := hp.lt
  cases hg : goodU l1 l2 o zs h m b
  · have e := Lib.hid (show [] = upB l1 l2 o zs h m b by unfold upB; rw [if_neg (by rw [hg]; simp)])
    rw [hg] at hgd
    replace hg := Lib.hid hg
    go_wp2_with (go_at_call 10; refine hgd.mono ?_; rintro e w2 ⟨rfl, hb2⟩; have hp2 := hp.below hb2 hp.lt; have u2 := u1.nx hb2; clear q0 q1 q2 q3 q4 q5 q6 ql; have q0 : w2.cell? ⟨w.heap.size, 0, none⟩ = some (.slice A1 n1 c1) := hp2.cellv 0 rfl; have q1 : w2.cell? ⟨w.heap.size, 1, none⟩ = some (.int .i64 o) := hp2.cellv 1 rfl; have q2 : w2.cell? ⟨w.heap.size, 2, none⟩ = some (.slice A n c) := hp2.cellv 2 rfl; have q3 : w2.cell? ⟨w.heap.size, 3, none⟩ = some (.int .u32 h) := hp2.cellv 3 rfl; have q4 : w2.cell? ⟨w.heap.size, 4, none⟩ = some (.int .i64 m) := hp2.cellv 4 rfl; have q5 : w2.cell? ⟨w.heap.size, 5, none⟩ = some (.bool b) := hp2.cellv 5 rfl; have q6 : w2.cell? ⟨w.heap.size, 6, none⟩ = some (.slice A2 n2 c2) := hp2.cellv 6 rfl; have ql := hp2.lt)
    go_ret
    exact ⟨_, rfl, by rw [← e.out]; exact OwnB.nil _ _, hB.trans (hb2.mono hz)⟩
  by_cases hk : (bodyB l1 l2 o zs h m b).length ≤ 4077
  · have e := Lib.hid (show bodyB l1 l2 o zs h m b = upB l1 l2 o zs h m b by unfold upB; rw [if_pos ⟨hg, hk⟩])
    rw [hg] at hgd
    replace hg := Lib.hid hg
    have hki : ((bodyB l1 l2 o zs h m b).length : Int) ≤ 4077 := by omega
    go_wp2_with (first
      | (go_at_call 10; refine hgd.mono ?_; rintro e w2 ⟨rfl, hb2⟩; have hp2 := hp.below hb2 hp.lt; have u2 := u1.nx hb2; clear q0 q1 q2 q3 q4 q5 q6 ql; have q0 : w2.cell? ⟨w.heap.size, 0, none⟩ = some (.slice A1 n1 c1) := hp2.cellv 0 rfl; have q1 : w2.cell? ⟨w.heap.size, 1, none⟩ = some (.int .i64 o) := hp2.cellv 1 rfl; have q2 : w2.cell? ⟨w.heap.size, 2, none⟩ = some (.slice A n c) := hp2.cellv 2 rfl; have q3 : w2.cell? ⟨w.heap.size, 3, none⟩ = some (.int .u32 h) := hp2.cellv 3 rfl; have q4 : w2.cell? ⟨w.heap.size, 4, none⟩ = some (.int .i64 m) := hp2.cellv 4 rfl; have q5 : w2.cell? ⟨w.heap.size, 5, none⟩ = some (.bool b) := hp2.cellv 5 rfl; have q6 : w2.cell? ⟨w.heap.size, 6, none⟩ = some (.slice A2 n2 c2) := hp2.cellv 6 rfl; have ql := hp2.lt)
      | (go_at_call 31; refine (upBody_any w2 A1 n1 c1 l1 o A n c zs h m b A2 n2 c2 l2 u2 z1 z2 z3).mono ?_; rintro e w3 ⟨v3, rfl, own3, hb3⟩; obtain ⟨A3, c3, rfl, hc3, hcm3, by3, hA3⟩ := own3.any2; have hB3 := hB.trans ((hb2.trans (hb3.mono hb2.size)).mono hz)))
    go_ret
    exact ⟨_, rfl, by rw [← e.out]; exact own3.less (Nat.le_trans hz hb2.size), hB3⟩
  · have e := Lib.hid (show [] = upB l1 l2 o zs h m b by unfold upB; rw [if_neg (fun q => hk q.2)])
    rw [hg] at hgd
    replace hg := Lib.hid hg
    have hki : ¬ (((bodyB l1 l2 o zs h m b).length : Int) ≤ 4077) := by omega
    go_wp2_with (first
      | (go_at_call 10; refine hgd.mono ?_; rintro e w2 ⟨rfl, hb2⟩; have hp2 := hp.below hb2 hp.lt; have u2 := u1.nx hb2; clear q0 q1 q2 q3 q4 q5 q6 ql; have q0 : w2.cell? ⟨w.heap.size, 0, none⟩ = some (.slice A1 n1 c1) := hp2.cellv 0 rfl; have q1 : w2.cell? ⟨w.heap.size, 1, none⟩ = some (.int .i64 o) := hp2.cellv 1 rfl; have q2 : w2.cell? ⟨w.heap.size, 2, none⟩ = some (.slice A n c) := hp2.cellv 2 rfl; have q3 : w2.cell? ⟨w.heap.size, 3, none⟩ = some (.int .u32 h) := hp2.cellv 3 rfl; have q4 : w2.cell? ⟨w.heap.size, 4, none⟩ = some (.int .i64 m) := hp2.cellv 4 rfl; have q5 : w2.cell? ⟨w.heap.size, 5, none⟩ = some (.bool b) := hp2.cellv 5 rfl; have q6 : w2.cell? ⟨w.heap.size, 6, none⟩ = some (.slice A2 n2 c2) := hp2.cellv 6 rfl; have ql := hp2.lt)
      | (go_at_call 31; refine (upBody_any w2 A1 n1 c1 l1 o A n c zs h m b A2 n2 c2 l2 u2 z1 z2 z3).mono ?_; rintro e w3 ⟨v3, rfl, own3, hb3⟩; obtain ⟨A3, c3, rfl, hc3, hcm3, by3, hA3⟩ := own3.any2; have hB3 := hB.trans ((hb2.trans (hb3.mono hb2.size)).mono hz)))
    go_ret
    exact ⟨_, rfl, by rw [← e.out]; exact OwnB.nil _ _, hB3⟩
set_option maxRecDepth 100000 in
set_option maxHeartbeats 4000000 in
theorem refUpSize_any (w : World) (A1 : Option Addr) (n1 c1 : Nat) (l1 : List (Int × Int)) (o : Int) (A : Option Addr) (n c : Nat) (zs : List Int) (h m : Int) (b : Bool) (A2 : Option Addr) (n2 c2 : Nat) (l2 : List (Int × Int)) (u : UpR w A1 n1 l1 A n zs h A2 n2 l2) (z1 : n1 ≤ 100000) (z2 : n2 ≤ 100000) (z3 : n ≤ 100000) : Calls Try.prog 15 #[.agg #[.slice A1 n1 c1, .int .i64 o, .slice A n c, .int .u32 h, .int .i64 m, .bool b, .slice A2 n2 c2]] w fun e w' => e = .returned (.int .i64 (upSize l1 l2 o zs h m b)) ∧ Below w.heap.size w w' := by
  have hB := (Below.refl w.heap.size w).alloc (Nat.le_refl _) (.cells #[.slice A1 n1 c1, .int .i64 o, .slice A n c, .int .u32 h, .int .i64 m, .bool b, .slice A2 n2 c2] 33)
  have hp := Blk.new w 33 #[.slice A1 n1 c1, .int .i64 o, .slice A n c, .int .u32 h, .int .i64 m, .bool b, .slice A2 n2 c2]
  have hlen : (bodyB l1 l2 o zs h m b).length ≤ 100000000 := by
    have hal := attU_le l2 o zs h m b
    have hp1 := pfAll_len l1
    have hp2 := pfAll_len l2
    have := u.s1.1
    have := u.s2.1
    unfold bodyB
    rw [List.length_append, List.length_append, cntB_len, cntB_len]
    omega
  go_enter Try.func15, Try.ntmps15
  go_upto_region 1 with (fail)
  generalize w.alloc (.cells #[.slice A1 n1 c1, .int .i64 o, .slice A n c, .int .u32 h, .int .i64 m, .bool b, .slice A2 n2 c2] 33) = w1 at *
  have hz := hB.size
  have u1 := u.nx hB
  have hgd := refUpGood_any w1 A1 n1 c1 l1 o A n c zs h m b A2 n2 c2 l2 u1 (by omega) (by omega) z3
  have q0 : w1.cell? ⟨w.heap.size, 0, none⟩ = some (.slice A1 n1 c1) := hp.cellv 0 rfl
  have q1 : w1.cell? ⟨w.heap.size, 1, none⟩ = some (.int .i64 o) := hp.cellv 1 rfl
  have q2 : w1.cell? ⟨w.heap.size, 2, none⟩ = some (.slice A n c) := hp.cellv 2 rfl
  have q3 : w1.cell? ⟨w.heap.size, 3, none⟩ = some (.int .u32 h) := hp.cellv 3 rfl
  have q4 : w1.cell? ⟨w.heap.size, 4, none⟩ = some (.int .i64 m) := hp.cellv 4 rfl
  have q5 : w1.cell? ⟨w.heap.size, 5, none⟩ = some (.bool b) := hp.cellv 5 rfl
  have q6 : w1.cell? ⟨w.heap.size, 6, none⟩ = some (.slice A2 n2 c2) := hp.cellv 6 rfl
  have ql := hp.lt
  cases hg : goodU l1 l2 o zs h m b
  · have e := Lib.hid (show (0 : Int) = upSize l1 l2 o zs h m b by unfold upSize; rw [hg]; rfl)
    rw [hg] at hgd
    replace hg := Lib.hid hg
    go_wp2_with (go_at_call 11; refine hgd.mono ?_; rintro e w2 ⟨rfl, hb2⟩; have hp2 := hp.below hb2 hp.lt; have u2 := u1.nx hb2; clear q0 q1 q2 q3 q4 q5 q6 ql; have q0 : w2.cell? ⟨w.heap.size, 0, none⟩ = some (.slice A1 n1 c1) := hp2.cellv 0 rfl; have q1 : w2.cell? ⟨w.heap.size, 1, none⟩ = some (.int .i64 o) := hp2.cellv 1 rfl; have q2 : w2.cell? ⟨w.heap.size, 2, none⟩ = some (.slice A n c) := hp2.cellv 2 rfl; have q3 : w2.cell? ⟨w.heap.size, 3, none⟩ = some (.int .u32 h) := hp2.cellv 3 rfl; have q4 : w2.cell? ⟨w.heap.size, 4, none⟩ = some (.int .i64 m) := hp2.cellv 4 rfl; have q5 : w2.cell? ⟨w.heap.size, 5, none⟩ = some (.bool b) := hp2.cellv 5 rfl; have q6 : w2.cell? ⟨w.heap.size, 6, none⟩ = some (.slice A2 n2 c2) := hp2.cellv 6 rfl; have ql := hp2.lt)
    go_ret
    exact ⟨ret_int e.out, hB.trans (hb2.mono hz)⟩
  · have e := Lib.hid (show ((bodyB l1 l2 o zs h m b).length : Int) = upSize l1 l2 o zs h m b by unfold upSize; rw [hg]; rfl)
    rw [hg] at hgd
    replace hg := Lib.hid hg
    go_wp2_with (first
      | (go_at_call 11; refine hgd.mono ?_; rintro e w2 ⟨rfl, hb2⟩; have hp2 := hp.below hb2 hp.lt; have u2 := u1.nx hb2; clear q0 q1 q2 q3 q4 q5 q6 ql; have q0 : w2.cell? ⟨w.heap.size, 0, none⟩ = some (.slice A1 n1 c1) := hp2.cellv 0 rfl; have q1 : w2.cell? ⟨w.heap.size, 1, none⟩ = some (.int .i64 o) := hp2.cellv 1 rfl; have q2 : w2.cell? ⟨w.heap.size, 2, none⟩ = some (.slice A n c) := hp2.cellv 2 rfl; have q3 : w2.cell? ⟨w.heap.size, 3, none⟩ = some (.int .u32 h) := hp2.cellv 3 rfl; have q4 : w2.cell? ⟨w.heap.size, 4, none⟩ = some (.int .i64 m) := hp2.cellv 4 rfl; have q5 : w2.cell? ⟨w.heap.size, 5, none⟩ = some (.bool b) := hp2.cellv 5 rfl; have q6 : w2.cell? ⟨w.heap.size, 6, none⟩ = some (.slice A2 n2 c2) := hp2.cellv 6 rfl; have ql := hp2.lt)
      | (go_at_call 32; refine (refUpBody_any w2 A1 n1 c1 l1 o A n c zs h m b A2 n2 c2 l2 u2 z1 z2 z3).mono ?_; rintro e w3 ⟨v3, rfl, own3, hb3⟩; obtain ⟨A3, c3, rfl, hc3, hcm3, by3, hA3⟩ := own3.any2; have hB3 := hB.trans ((hb2.trans (hb3.mono hb2.size)).mono hz)))
    go_ret
    exact ⟨ret_int e.out, hB3⟩
set_option maxRecDepth 100000 in
set_option maxHeartbeats 4000000 in
theorem refUpBytes_any (w : World) (A1 : Option Addr) (n1 c1 : Nat) (l1 : List (Int × Int)) (o : Int) (A : Option Addr) (n c : Nat) (zs : List Int) (h m : Int) (b : Bool) (A2 : Option Addr) (n2 c2 : Nat) (l2 : List (Int × Int)) (u : UpR w A1 n1 l1 A n zs h A2 n2 l2) (z1 : n1 ≤ 100000) (z2 : n2 ≤ 100000) (z3 : n ≤ 100000) : Calls Try.prog 13 #[.agg #[.slice A1 n1 c1, .int .i64 o, .slice A n c, .int .u32 h, .int .i64 m, .bool b, .slice A2 n2 c2]] w fun e w' => ∃ v, e = .returned v ∧ OwnB w' w.heap.size v (upB l1 l2 o zs h m b).length (upB l1 l2 o zs h m b) ∧ Below w.heap.size w w' := by
  have hB := (Below.refl w.heap.size w).alloc (Nat.le_refl _) (.cells #[.slice A1 n1 c1, .int .i64 o, .slice A n c, .int .u32 h, .int .i64 m, .bool b, .slice A2 n2 c2] 33)
  have hp := Blk.new w 33 #[.slice A1 n1 c1, .int .i64 o, .slice A n c, .int .u32 h, .int .i64 m, .bool b, .slice A2 n2 c2]
  have hlen : (bodyB l1 l2 o zs h m b).length ≤ 100000000 := by
    have hal := attU_le l2 o zs h m b
    have hp1 := pfAll_len l1
    have hp2 := pfAll_len l2
    have := u.s1.1
    have := u.s2.1
    unfold bodyB
    rw [List.length_append, List.length_append, cntB_len, cntB_len]
    omega
  go_enter Try.func13, Try.ntmps13
  go_upto_region 1 with (fail)
  generalize w.alloc (.cells #[.slice A1 n1 c1, .int .i64 o, .slice A n c, .int .u32 h, .int .i64 m, .bool b, .slice A2 n2 c2] 33) = w1 at *
  have hz := hB.size
  have u1 := u.nx hB
  have hgd := refUpGood_any w1 A1 n1 c1 l1 o A n c zs h m b A2 n2 c2 l2 u1 (by omega) (by omega) z3
  have q0 : w1.cell? ⟨w.heap.size, 0, none⟩ = some (.slice A1 n1 c1) := hp.cellv 0 rfl
  have q1 : w1.cell? ⟨w.heap.size, 1, none⟩ = some (.int .i64 o) := hp.cellv 1 rfl
  have q2 : w1.cell? ⟨w.heap.size, 2, none⟩ = some (.slice A n c) := hp.cellv 2 rfl
  have q3 : w1.cell? ⟨w.heap.size, 3, none⟩ = some (.int .u32 h) := hp.cellv 3 rfl
  have q4 : w1.cell? ⟨w.heap.size, 4, none⟩ = some (.int .i64 m) := hp.cellv 4 rfl
  have q5 : w1.cell? ⟨w.heap.size, 5, none⟩ = some (.bool b) := hp.cellv 5 rfl
  have q6 : w1.cell? ⟨w.heap.size, 6, none⟩ = some (.slice A2 n2 c2) := hp.cellv 6 rfl
  have ql := hp.lt
  cases hg : goodU l1 l2 o zs h m b
  · have e := Lib.hid (show [] = upB l1 l2 o zs h m b by unfold upB; rw [if_neg (by rw [hg]; simp)])
    rw [hg] at hgd
    replace hg := Lib.hid hg
    go_wp2_with (go_at_call 11; refine hgd.mono ?_; rintro e w2 ⟨rfl, hb2⟩; have hp2 := hp.below hb2 hp.lt; have u2 := u1.nx hb2; clear q0 q1 q2 q3 q4 q5 q6 ql; have q0 : w2.cell? ⟨w.heap.size, 0, none⟩ = some (.slice A1 n1 c1) := hp2.cellv 0 rfl; have q1 : w2.cell? ⟨w.heap.size, 1, none⟩ = some (.int .i64 o) := hp2.cellv 1 rfl; have q2 : w2.cell? ⟨w.heap.size, 2, none⟩ = some (.slice A n c) := hp2.cellv 2 rfl; have q3 : w2.cell? ⟨w.heap.size, 3, none⟩ = some (.int .u32 h) := hp2.cellv 3 rfl; have q4 : w2.cell? ⟨w.heap.size, 4, none⟩ = some (.int .i64 m) := hp2.cellv 4 rfl; have q5 : w2.cell? ⟨w.heap.size, 5, none⟩ = some (.bool b) := hp2.cellv 5 rfl; have q6 : w2.cell? ⟨w.heap.size, 6, none⟩ = some (.slice A2 n2 c2) := hp2.cellv 6 rfl; have ql := hp2.lt)
    go_ret
    exact ⟨_, rfl, by rw [← e.out]; exact OwnB.nil _ _, hB.trans (hb2.mono hz)⟩
  by_cases hk : (bodyB l1 l2 o zs h m b).length ≤ 4077
  · have e := Lib.hid (show bodyB l1 l2 o zs h m b = upB l1 l2 o zs h m b by unfold upB; rw [if_pos ⟨hg, hk⟩])
    rw [hg] at hgd
    replace hg := Lib.hid hg
    have hki : ((bodyB l1 l2 o zs h m b).length : Int) ≤ 4077 := by omega
    have tok := True.intro
    go_wp2_with (first
      | (go_at_call 11; refine hgd.mono ?_; rintro e w2 ⟨rfl, hb2⟩; have hp2 := hp.below hb2 hp.lt; have u2 := u1.nx hb2; clear q0 q1 q2 q3 q4 q5 q6 ql; have q0 : w2.cell? ⟨w.heap.size, 0, none⟩ = some (.slice A1 n1 c1) := hp2.cellv 0 rfl; have q1 : w2.cell? ⟨w.heap.size, 1, none⟩ = some (.int .i64 o) := hp2.cellv 1 rfl; have q2 : w2.cell? ⟨w.heap.size, 2, none⟩ = some (.slice A n c) := hp2.cellv 2 rfl; have q3 : w2.cell? ⟨w.heap.size, 3, none⟩ = some (.int .u32 h) := hp2.cellv 3 rfl; have q4 : w2.cell? ⟨w.heap.size, 4, none⟩ = some (.int .i64 m) := hp2.cellv 4 rfl; have q5 : w2.cell? ⟨w.heap.size, 5, none⟩ = some (.bool b) := hp2.cellv 5 rfl; have q6 : w2.cell? ⟨w.heap.size, 6, none⟩ = some (.slice A2 n2 c2) := hp2.cellv 6 rfl; have ql := hp2.lt)
      | (go_at_call 32; have tok9 := tok; refine (refUpBody_any w2 A1 n1 c1 l1 o A n c zs h m b A2 n2 c2 l2 u2 z1 z2 z3).mono ?_; rintro e w3 ⟨v3, rfl, own3, hb3⟩; obtain ⟨A3, c3, rfl, hc3, hcm3, by3, hA3⟩ := own3.any2; have hB3 := hB.trans ((hb2.trans (hb3.mono hb2.size)).mono hz); have tok2 := tok; clear tok; have hp3 := hp2.below hb3 hp2.lt; have u3 := u2.nx hb3; clear q0 q1 q2 q3 q4 q5 q6 ql; have q0 : w3.cell? ⟨w.heap.size, 0, none⟩ = some (.slice A1 n1 c1) := hp3.cellv 0 rfl; have q1 : w3.cell? ⟨w.heap.size, 1, none⟩ = some (.int .i64 o) := hp3.cellv 1 rfl; have q2 : w3.cell? ⟨w.heap.size, 2, none⟩ = some (.slice A n c) := hp3.cellv 2 rfl; have q3 : w3.cell? ⟨w.heap.size, 3, none⟩ = some (.int .u32 h) := hp3.cellv 3 rfl; have q4 : w3.cell? ⟨w.heap.size, 4, none⟩ = some (.int .i64 m) := hp3.cellv 4 rfl; have q5 : w3.cell? ⟨w.heap.size, 5, none⟩ = some (.bool b) := hp3.cellv 5 rfl; have q6 : w3.cell? ⟨w.heap.size, 6, none⟩ = some (.slice A2 n2 c2) := hp3.cellv 6 rfl; have ql := hp3.lt)
      | (go_at_call 32; refine (refUpBody_any w3 A1 n1 c1 l1 o A n c zs h m b A2 n2 c2 l2 u3 z1 z2 z3).mono ?_; rintro e w4 ⟨v4, rfl, own4, hb4⟩))
    go_ret
    exact ⟨_, rfl, by rw [← e.out]; exact own4.less (Nat.le_trans (Nat.le_trans hz hb2.size) hb3.size), hB3.trans (hb4.mono hB3.size)⟩
  · have e := Lib.hid (show [] = upB l1 l2 o zs h m b by unfold upB; rw [if_neg (fun q => hk q.2)])
    rw [hg] at hgd
    replace hg := Lib.hid hg
    have hki : (4077 : Int) < (bodyB l1 l2 o zs h m b).length := by omega
    go_wp2_with (first
      | (go_at_call 11; refine hgd.mono ?_; rintro e w2 ⟨rfl, hb2⟩; have hp2 := hp.below hb2 hp.lt; have u2 := u1.nx hb2; clear q0 q1 q2 q3 q4 q5 q6 ql; have q0 : w2.cell? ⟨w.heap.size, 0, none⟩ = some (.slice A1 n1 c1) := hp2.cellv 0 rfl; have q1 : w2.cell? ⟨w.heap.size, 1, none⟩ = some (.int .i64 o) := hp2.cellv 1 rfl; have q2 : w2.cell? ⟨w.heap.size, 2, none⟩ = some (.slice A n c) := hp2.cellv 2 rfl; have q3 : w2.cell? ⟨w.heap.size, 3, none⟩ = some (.int .u32 h) := hp2.cellv 3 rfl; have q4 : w2.cell? ⟨w.heap.size, 4, none⟩ = some (.int .i64 m) := hp2.cellv 4 rfl; have q5 : w2.cell? ⟨w.heap.size, 5, none⟩ = some (.bool b) := hp2.cellv 5 rfl; have q6 : w2.cell? ⟨w.heap.size, 6, none⟩ = some (.slice A2 n2 c2) := hp2.cellv 6 rfl; have ql := hp2.lt)
      | (go_at_call 32; refine (refUpBody_any w2 A1 n1 c1 l1 o A n c zs h m b A2 n2 c2 l2 u2 z1 z2 z3).mono ?_; rintro e w3 ⟨v3, rfl, own3, hb3⟩; obtain ⟨A3, c3, rfl, hc3, hcm3, by3, hA3⟩ := own3.any2; have hB3 := hB.trans ((hb2.trans (hb3.mono hb2.size)).mono hz)))
    go_ret
    exact ⟨_, rfl, by rw [← e.out]; exact OwnB.nil _ _, hB3⟩
end Go.Proofs.Ytfnclmacodchfaa

/- update: Same, the document's; Empty. -/
namespace Go.Proofs.Ytfnclmacodchfaa
set_option linter.unusedVariables false
open Go Go.RowKit

/-- are two bodies alike? -/
def sameU (l1 l2 : List (Int × Int)) (o : Int) (zs : List Int) (h m : Int) (b : Bool) (l1' l2' : List (Int × Int)) (o' : Int) (zs' : List Int) (h' m' : Int) (b' : Bool) : Bool := (decide (l1 = l1') && decide (l2 = l2')) && sameA o zs h m b o' zs' h' m' b'
set_option maxRecDepth 100000 in
set_option maxHeartbeats 8000000 in
theorem upSame_any (w : World) (A1 : Option Addr) (n1 c1 : Nat) (l1 : List (Int × Int)) (o : Int) (A : Option Addr) (n c : Nat) (zs : List Int) (h m : Int) (b : Bool) (A2 : Option Addr) (n2 c2 : Nat) (l2 : List (Int × Int)) (A1' : Option Addr) (n1' c1' : Nat) (l1' : List (Int × Int)) (o' : Int) (A' : Option Addr) (n' c' : Nat) (zs' : List Int) (h' m' : Int) (b' : Bool) (A2' : Option Addr) (n2' c2' : Nat) (l2' : List (Int × Int)) (u : UpR w A1 n1 l1 A n zs h A2 n2 l2) (u' : UpR w A1' n1' l1' A' n' zs' h' A2' n2' l2') (z1 : n1 ≤ 1000000) (z2 : n2 ≤ 1000000) (z3 : n ≤ 100000) :
    Calls Try.prog 16 #[.agg #[.slice A1 n1 c1, .int .i64 o, .slice A n c, .int .u32 h, .int .i64 m, .bool b, .slice A2 n2 c2], .agg #[.slice A1' n1' c1', .int .i64 o', .slice A' n' c', .int .u32 h', .int .i64 m', .bool b', .slice A2' n2' c2']] w fun e w' => e = .returned (.bool (sameU l1 l2 o zs h m b l1' l2' o' zs' h' m' b')) ∧ Below w.heap.size w w' := by
  have hB := ((Below.refl w.heap.size w).alloc (Nat.le_refl _) (.cells #[.slice A1 n1 c1, .int .i64 o, .slice A n c, .int .u32 h, .int .i64 m, .bool b, .slice A2 n2 c2] 28)).alloc (by simp) (.cells #[.slice A1' n1' c1', .int .i64 o', .slice A' n' c', .int .u32 h', .int .i64 m', .bool b', .slice A2' n2' c2'] 28)
  have hp := (Blk.new w 28 #[.slice A1 n1 c1, .int .i64 o, .slice A n c, .int .u32 h, .int .i64 m, .bool b, .slice A2 n2 c2]).alloc (.cells #[.slice A1' n1' c1', .int .i64 o', .slice A' n' c', .int .u32 h', .int .i64 m', .bool b', .slice A2' n2' c2'] 28)
  have hp' : Blk ((w.alloc (.cells #[.slice A1 n1 c1, .int .i64 o, .slice A n c, .int .u32 h, .int .i64 m, .bool b, .slice A2 n2 c2] 28)).alloc (.cells #[.slice A1' n1' c1', .int .i64 o', .slice A' n' c', .int .u32 h', .int .i64 m', .bool b', .slice A2' n2' c2'] 28)) (w.heap.size + 1) 28 #[.slice A1' n1' c1', .int .i64 o', .slice A' n' c', .int .u32 h', .int .i64 m', .bool b', .slice A2' n2' c2'] := by
    have := Blk.new (w.alloc (.cells #[.slice A1 n1 c1, .int .i64 o, .slice A n c, .int .u32 h, .int .i64 m, .bool b, .slice A2 n2 c2] 28)) 28 #[.slice A1' n1' c1', .int .i64 o', .slice A' n' c', .int .u32 h', .int .i64 m', .bool b', .slice A2' n2' c2']
    simpa using this
  go_enter Try.func16, Try.ntmps16
  go_upto_region 1 with (fail)
  generalize (w.alloc (.cells #[.slice A1 n1 c1, .int .i64 o, .slice A n c, .int .u32 h, .int .i64 m, .bool b, .slice A2 n2 c2] 28)).alloc (.cells #[.slice A1' n1' c1', .int .i64 o', .slice A' n' c', .int .u32 h', .int .i64 m', .bool b', .slice A2' n2' c2'] 28) = w1 at *
  have hz := hB.size
  have u1 := u.nx hB
  have u1' := u'.nx hB
  have q0 : w1.cell? ⟨w.heap.size, 0, none⟩ = some (.slice A1 n1 c1) := hp.cellv 0 rfl
  have q1 : w1.cell? ⟨w.heap.size, 1, none⟩ = some (.int .i64 o) := hp.cellv 1 rfl
  have q2 : w1.cell? ⟨w.heap.size, 2, none⟩ = some (.slice A n c) := hp.cellv 2 rfl
  have q3 : w1.cell? ⟨w.heap.size, 3, none⟩ = some (.int .u32 h) := hp.cellv 3 rfl
  have q4 : w1.cell? ⟨w.heap.size, 4, none⟩ = some (.int .i64 m) := hp.cellv 4 rfl
  have q5 : w1.cell? ⟨w.heap.size, 5, none⟩ = some (.bool b) := hp.cellv 5 rfl
  have q6 : w1.cell? ⟨w.heap.size, 6, none⟩ = some (.slice A2 n2 c2) := hp.cellv 6 rfl
  have p0 : w1.cell? ⟨w.heap.size + 1, 0, none⟩ = some (.slice A1' n1' c1') := hp'.cellv 0 rfl
  have p1 : w1.cell? ⟨w.heap.size + 1, 1, none⟩ = some (.int .i64 o') := hp'.cellv 1 rfl
  have p2 : w1.cell? ⟨w.heap.size + 1, 2, none⟩ = some (.slice A' n' c') := hp'.cellv 2 rfl
  have p3 : w1.cell? ⟨w.heap.size + 1, 3, none⟩ = some (.int .u32 h') := hp'.cellv 3 rfl
  have p4 : w1.cell? ⟨w.heap.size + 1, 4, none⟩ = some (.int .i64 m') := hp'.cellv 4 rfl
  have p5 : w1.cell? ⟨w.heap.size + 1, 5, none⟩ = some (.bool b') := hp'.cellv 5 rfl
  have p6 : w1.cell? ⟨w.heap.size + 1, 6, none⟩ = some (.slice A2' n2' c2') := hp'.cellv 6 rfl
  have ql := hp.lt
  have pl := hp'.lt
  have hE1 := equalP_any w1 (fun b => b < w1.heap.size) (fun b => b < w1.heap.size) A1 n1 c1 l1 A1' n1' c1' l1' u1.s1 u1'.s1 (fun _ h => h) (fun _ h => h) z1
  have hE2 := fun (w2 : World) (hb : Below w1.heap.size w1 w2) => equalP_any w2 (fun b => b < w2.heap.size) (fun b => b < w2.heap.size) A2 n2 c2 l2 A2' n2' c2' l2' (u1.nx hb).s2 (u1'.nx hb).s2 (fun _ h => h) (fun _ h => h) z2
  cases d1 : decide (l1 = l1')
  · have e := Lib.hid (show sameU l1 l2 o zs h m b l1' l2' o' zs' h' m' b' = false by unfold sameU; rw [d1]; rfl)
    rw [d1] at hE1
    replace d1 := Lib.hid d1
    go_wp2_with (go_at_call 33; refine hE1.mono ?_; rintro e w2 ⟨rfl, hb2⟩)
    go_ret
    exact ⟨ret_bool e.out.symm, hB.trans (hb2.mono hz)⟩
  rw [d1] at hE1
  have k1 : (decide (l1 = l1')) = true := d1
  replace k1 := Lib.hid k1
  replace d1 := Lib.hid d1
  cases d2 : decide (l2 = l2')
  · have e := Lib.hid (show sameU l1 l2 o zs h m b l1' l2' o' zs' h' m' b' = false by unfold sameU; rw [k1.out, d2]; rfl)
    rw [d2] at hE2
    replace d2 := Lib.hid d2
    go_wp2_with (go_at_call 33; first
      | (with_reducible refine hE1.mono ?_; rintro e w2 ⟨rfl, hb2⟩; replace hp := hp.below hb2 hp.lt; replace hp' := hp'.below hb2 hp'.lt; clear q0 q1 q2 q3 q4 q5 q6 ql p0 p1 p2 p3 p4 p5 p6 pl; have q0 : w2.cell? ⟨w.heap.size, 0, none⟩ = some (.slice A1 n1 c1) := hp.cellv 0 rfl; have q1 : w2.cell? ⟨w.heap.size, 1, none⟩ = some (.int .i64 o) := hp.cellv 1 rfl; have q2 : w2.cell? ⟨w.heap.size, 2, none⟩ = some (.slice A n c) := hp.cellv 2 rfl; have q3 : w2.cell? ⟨w.heap.size, 3, none⟩ = some (.int .u32 h) := hp.cellv 3 rfl; have q4 : w2.cell? ⟨w.heap.size, 4, none⟩ = some (.int .i64 m) := hp.cellv 4 rfl; have q5 : w2.cell? ⟨w.heap.size, 5, none⟩ = some (.bool b) := hp.cellv 5 rfl; have q6 : w2.cell? ⟨w.heap.size, 6, none⟩ = some (.slice A2 n2 c2) := hp.cellv 6 rfl; have p0 : w2.cell? ⟨w.heap.size + 1, 0, none⟩ = some (.slice A1' n1' c1') := hp'.cellv 0 rfl; have p1 : w2.cell? ⟨w.heap.size + 1, 1, none⟩ = some (.int .i64 o') := hp'.cellv 1 rfl; have p2 : w2.cell? ⟨w.heap.size + 1, 2, none⟩ = some (.slice A' n' c') := hp'.cellv 2 rfl; have p3 : w2.cell? ⟨w.heap.size + 1, 3, none⟩ = some (.int .u32 h') := hp'.cellv 3 rfl; have p4 : w2.cell? ⟨w.heap.size + 1, 4, none⟩ = some (.int .i64 m') := hp'.cellv 4 rfl; have p5 : w2.cell? ⟨w.heap.size + 1, 5, none⟩ = some (.bool b') := hp'.cellv 5 rfl; have p6 : w2.cell? ⟨w.heap.size + 1, 6, none⟩ = some (.slice A2' n2' c2') := hp'.cellv 6 rfl; have ql := hp.lt; have pl := hp'.lt)
      | (with_reducible refine (hE2 _ hb2).mono ?_; rintro e w3 ⟨rfl, hb3⟩))
    go_ret
    exact ⟨ret_bool e.out.symm, hB.trans ((hb2.trans (hb3.mono hb2.size)).mono hz)⟩
  rw [d2] at hE2
  have e := Lib.hid (show sameU l1 l2 o zs h m b l1' l2' o' zs' h' m' b' = sameA o zs h m b o' zs' h' m' b' by unfold sameU; rw [k1.out, d2]; rfl)
  replace d2 := Lib.hid d2
  go_wp2_with (first
    | (go_at_call 33; first
      | (with_reducible refine hE1.mono ?_; rintro e w2 ⟨rfl, hb2⟩; replace hp := hp.below hb2 hp.lt; replace hp' := hp'.below hb2 hp'.lt; clear q0 q1 q2 q3 q4 q5 q6 ql p0 p1 p2 p3 p4 p5 p6 pl; have q0 : w2.cell? ⟨w.heap.size, 0, none⟩ = some (.slice A1 n1 c1) := hp.cellv 0 rfl; have q1 : w2.cell? ⟨w.heap.size, 1, none⟩ = some (.int .i64 o) := hp.cellv 1 rfl; have q2 : w2.cell? ⟨w.heap.size, 2, none⟩ = some (.slice A n c) := hp.cellv 2 rfl; have q3 : w2.cell? ⟨w.heap.size, 3, none⟩ = some (.int .u32 h) := hp.cellv 3 rfl; have q4 : w2.cell? ⟨w.heap.size, 4, none⟩ = some (.int .i64 m) := hp.cellv 4 rfl; have q5 : w2.cell? ⟨w.heap.size, 5, none⟩ = some (.bool b) := hp.cellv 5 rfl; have q6 : w2.cell? ⟨w.heap.size, 6, none⟩ = some (.slice A2 n2 c2) := hp.cellv 6 rfl; have p0 : w2.cell? ⟨w.heap.size + 1, 0, none⟩ = some (.slice A1' n1' c1') := hp'.cellv 0 rfl; have p1 : w2.cell? ⟨w.heap.size + 1, 1, none⟩ = some (.int .i64 o') := hp'.cellv 1 rfl; have p2 : w2.cell? ⟨w.heap.size + 1, 2, none⟩ = some (.slice A' n' c') := hp'.cellv 2 rfl; have p3 : w2.cell? ⟨w.heap.size + 1, 3, none⟩ = some (.int .u32 h') := hp'.cellv 3 rfl; have p4 : w2.cell? ⟨w.heap.size + 1, 4, none⟩ = some (.int .i64 m') := hp'.cellv 4 rfl; have p5 : w2.cell? ⟨w.heap.size + 1, 5, none⟩ = some (.bool b') := hp'.cellv 5 rfl; have p6 : w2.cell? ⟨w.heap.size + 1, 6, none⟩ = some (.slice A2' n2' c2') := hp'.cellv 6 rfl; have ql := hp.lt; have pl := hp'.lt)
      | (with_reducible refine (hE2 _ hb2).mono ?_; rintro e w3 ⟨rfl, hb3⟩; have hb3b := hb2.trans (hb3.mono hb2.size); replace hp := hp.below hb3 hp.lt; replace hp' := hp'.below hb3 hp'.lt; clear q0 q1 q2 q3 q4 q5 q6 ql p0 p1 p2 p3 p4 p5 p6 pl; have q0 : w3.cell? ⟨w.heap.size, 0, none⟩ = some (.slice A1 n1 c1) := hp.cellv 0 rfl; have q1 : w3.cell? ⟨w.heap.size, 1, none⟩ = some (.int .i64 o) := hp.cellv 1 rfl; have q2 : w3.cell? ⟨w.heap.size, 2, none⟩ = some (.slice A n c) := hp.cellv 2 rfl; have q3 : w3.cell? ⟨w.heap.size, 3, none⟩ = some (.int .u32 h) := hp.cellv 3 rfl; have q4 : w3.cell? ⟨w.heap.size, 4, none⟩ = some (.int .i64 m) := hp.cellv 4 rfl; have q5 : w3.cell? ⟨w.heap.size, 5, none⟩ = some (.bool b) := hp.cellv 5 rfl; have q6 : w3.cell? ⟨w.heap.size, 6, none⟩ = some (.slice A2 n2 c2) := hp.cellv 6 rfl; have p0 : w3.cell? ⟨w.heap.size + 1, 0, none⟩ = some (.slice A1' n1' c1') := hp'.cellv 0 rfl; have p1 : w3.cell? ⟨w.heap.size + 1, 1, none⟩ = some (.int .i64 o') := hp'.cellv 1 rfl; have p2 : w3.cell? ⟨w.heap.size + 1, 2, none⟩ = some (.slice A' n' c') := hp'.cellv 2 rfl; have p3 : w3.cell? ⟨w.heap.size + 1, 3, none⟩ = some (.int .u32 h') := hp'.cellv 3 rfl; have p4 : w3.cell? ⟨w.heap.size + 1, 4, none⟩ = some (.int .i64 m') := hp'.cellv 4 rfl; have p5 : w3.cell? ⟨w.heap.size + 1, 5, none⟩ = some (.bool b') := hp'.cellv 5 rfl; have p6 : w3.cell? ⟨w.heap.size + 1, 6, none⟩ = some (.slice A2' n2' c2') := hp'.cellv 6 rfl; have ql := hp.lt; have pl := hp'.lt))
    | (go_at_call 27; refine (attrSame_any w3 o A n c zs h m b o' A' n' c' zs' h' m' b' (u1.nx hb3b).pa (u1'.nx hb3b).pa z3).mono ?_; rintro e w4 ⟨rfl, hb4⟩))
  go_ret
  exact ⟨ret_bool e.out.symm, hB.trans ((hb3b.trans (hb4.mono hb3b.size)).mono hz)⟩
set_option maxRecDepth 100000 in
set_option maxHeartbeats 8000000 in
theorem refUpSame_any (w : World) (A1 : Option Addr) (n1 c1 : Nat) (l1 : List (Int × Int)) (o : Int) (A : Option Addr) (n c : Nat) (zs : List Int) (h m : Int) (b : Bool) (A2 : Option Addr) (n2 c2 : Nat) (l2 : List (Int × Int)) (A1' : Option Addr) (n1' c1' : Nat) (l1' : List (Int × Int)) (o' : Int) (A' : Option Addr) (n' c' : Nat) (zs' : List Int) (h' m' : Int) (b' : Bool) (A2' : Option Addr) (n2' c2' : Nat) (l2' : List (Int × Int)) (u : UpR w A1 n1 l1 A n zs h A2 n2 l2) (u' : UpR w A1' n1' l1' A' n' zs' h' A2' n2' l2') (z1 : n1 ≤ 1000000) (z2 : n2 ≤ 1000000) (z3 : n ≤ 100000) :
    Calls Try.prog 17 #[.agg #[.slice A1 n1 c1, .int .i64 o, .slice A n c, .int .u32 h, .int .i64 m, .bool b, .slice A2 n2 c2], .agg #[.slice A1' n1' c1', .int .i64 o', .slice A' n' c', .int .u32 h', .int .i64 m', .bool b', .slice A2' n2' c2']] w fun e w' => e = .returned (.bool (sameU l1 l2 o zs h m b l1' l2' o' zs' h' m' b')) ∧ Below w.heap.size w w' := by
  have hB := ((Below.refl w.heap.size w).alloc (Nat.le_refl _) (.cells #[.slice A1 n1 c1, .int .i64 o, .slice A n c, .int .u32 h, .int .i64 m, .bool b, .slice A2 n2 c2] 33)).alloc (by simp) (.cells #[.slice A1' n1' c1', .int .i64 o', .slice A' n' c', .int .u32 h', .int .i64 m', .bool b', .slice A2' n2' c2'] 33)
  have hp := (Blk.new w 33 #[.slice A1 n1 c1, .int .i64 o, .slice A n c, .int .u32 h, .int .i64 m, .bool b, .slice A2 n2 c2]).alloc (.cells #[.slice A1' n1' c1', .int .i64 o', .slice A' n' c', .int .u32 h', .int .i64 m', .bool b', .slice A2' n2' c2'] 33)
  have hp' : Blk ((w.alloc (.cells #[.slice A1 n1 c1, .int .i64 o, .slice A n c, .int .u32 h, .int .i64 m, .bool b, .slice A2 n2 c2] 33)).alloc (.cells #[.slice A1' n1' c1', .int .i64 o', .slice A' n' c', .int .u32 h', .int .i64 m', .bool b', .slice A2' n2' c2'] 33)) (w.heap.size + 1) 33 #[.slice A1' n1' c1', .int .i64 o', .slice A' n' c', .int .u32 h', .int .i64 m', .bool b', .slice A2' n2' c2'] := by
    have := Blk.new (w.alloc (.cells #[.slice A1 n1 c1, .int .i64 o, .slice A n c, .int .u32 h, .int .i64 m, .bool b, .slice A2 n2 c2] 33)) 33 #[.slice A1' n1' c1', .int .i64 o', .slice A' n' c', .int .u32 h', .int .i64 m', .bool b', .slice A2' n2' c2']
    simpa using this
  go_enter Try.func17, Try.ntmps17
  go_upto_region 1 with (fail)
  generalize (w.alloc (.cells #[.slice A1 n1 c1, .int .i64 o, .slice A n c, .int .u32 h, .int .i64 m, .bool b, .slice A2 n2 c2] 33)).alloc (.cells #[.slice A1' n1' c1', .int .i64 o', .slice A' n' c', .int .u32 h', .int .i64 m', .bool b', .slice A2' n2' c2'] 33) = w1 at *
  have hz := hB.size
  have u1 := u.nx hB
  have u1' := u'.nx hB
  have q0 : w1.cell? ⟨w.heap.size, 0, none⟩ = some (.slice A1 n1 c1) := hp.cellv 0 rfl
  have q1 : w1.cell? ⟨w.heap.size, 1, none⟩ = some (.int .i64 o) := hp.cellv 1 rfl
  have q2 : w1.cell? ⟨w.heap.size, 2, none⟩ = some (.slice A n c) := hp.cellv 2 rfl
  have q3 : w1.cell? ⟨w.heap.size, 3, none⟩ = some (.int .u32 h) := hp.cellv 3 rfl
  have q4 : w1.cell? ⟨w.heap.size, 4, none⟩ = some (.int .i64 m) := hp.cellv 4 rfl
  have q5 : w1.cell? ⟨w.heap.size, 5, none⟩ = some (.bool b) := hp.cellv 5 rfl
  have q6 : w1.cell? ⟨w.heap.size, 6, none⟩ = some (.slice A2 n2 c2) := hp.cellv 6 rfl
  have p0 : w1.cell? ⟨w.heap.size + 1, 0, none⟩ = some (.slice A1' n1' c1') := hp'.cellv 0 rfl
  have p1 : w1.cell? ⟨w.heap.size + 1, 1, none⟩ = some (.int .i64 o') := hp'.cellv 1 rfl
  have p2 : w1.cell? ⟨w.heap.size + 1, 2, none⟩ = some (.slice A' n' c') := hp'.cellv 2 rfl
  have p3 : w1.cell? ⟨w.heap.size + 1, 3, none⟩ = some (.int .u32 h') := hp'.cellv 3 rfl
  have p4 : w1.cell? ⟨w.heap.size + 1, 4, none⟩ = some (.int .i64 m') := hp'.cellv 4 rfl
  have p5 : w1.cell? ⟨w.heap.size + 1, 5, none⟩ = some (.bool b') := hp'.cellv 5 rfl
  have p6 : w1.cell? ⟨w.heap.size + 1, 6, none⟩ = some (.slice A2' n2' c2') := hp'.cellv 6 rfl
  have ql := hp.lt
  have pl := hp'.lt
  have hE1 := same3_any w1 (fun b => b < w1.heap.size) (fun b => b < w1.heap.size) A1 n1 c1 l1 A1' n1' c1' l1' u1.s1 u1'.s1 (fun _ h => h) (fun _ h => h) z1
  have hE2 := fun (w2 : World) (hb : Below w1.heap.size w1 w2) => same3_any w2 (fun b => b < w2.heap.size) (fun b => b < w2.heap.size) A2 n2 c2 l2 A2' n2' c2' l2' (u1.nx hb).s2 (u1'.nx hb).s2 (fun _ h => h) (fun _ h => h) z2
  cases d1 : decide (l1 = l1')
  · have e := Lib.hid (show sameU l1 l2 o zs h m b l1' l2' o' zs' h' m' b' = false by unfold sameU; rw [d1]; rfl)
    rw [d1] at hE1
    replace d1 := Lib.hid d1
    go_wp2_with (go_at_call 34; refine hE1.mono ?_; rintro e w2 ⟨rfl, hb2⟩)
    go_ret
    exact ⟨ret_bool e.out.symm, hB.trans (hb2.mono hz)⟩
  rw [d1] at hE1
  have k1 : (decide (l1 = l1')) = true := d1
  replace k1 := Lib.hid k1
  replace d1 := Lib.hid d1
  cases d2 : decide (l2 = l2')
  · have e := Lib.hid (show sameU l1 l2 o zs h m b l1' l2' o' zs' h' m' b' = false by unfold sameU; rw [k1.out, d2]; rfl)
    rw [d2] at hE2
    replace d2 := Lib.hid d2
    go_wp2_with (go_at_call 34; first
      | (with_reducible refine hE1.mono ?_; rintro e w2 ⟨rfl, hb2⟩; replace hp := hp.below hb2 hp.lt; replace hp' := hp'.below hb2 hp'.lt; clear q0 q1 q2 q3 q4 q5 q6 ql p0 p1 p2 p3 p4 p5 p6 pl; have q0 : w2.cell? ⟨w.heap.size, 0, none⟩ = some (.slice A1 n1 c1) := hp.cellv 0 rfl; have q1 : w2.cell? ⟨w.heap.size, 1, none⟩ = some (.int .i64 o) := hp.cellv 1 rfl; have q2 : w2.cell? ⟨w.heap.size, 2, none⟩ = some (.slice A n c) := hp.cellv 2 rfl; have q3 : w2.cell? ⟨w.heap.size, 3, none⟩ = some (.int .u32 h) := hp.cellv 3 rfl; have q4 : w2.cell? ⟨w.heap.size, 4, none⟩ = some (.int .i64 m) := hp.cellv 4 rfl; have q5 : w2.cell? ⟨w.heap.size, 5, none⟩ = some (.bool b) := hp.cellv 5 rfl; have q6 : w2.cell? ⟨w.heap.size, 6, none⟩ = some (.slice A2 n2 c2) := hp.cellv 6 rfl; have p0 : w2.cell? ⟨w.heap.size + 1, 0, none⟩ = some (.slice A1' n1' c1') := hp'.cellv 0 rfl; have p1 : w2.cell? ⟨w.heap.size + 1, 1, none⟩ = some (.int .i64 o') := hp'.cellv 1 rfl; have p2 : w2.cell? ⟨w.heap.size + 1, 2, none⟩ = some (.slice A' n' c') := hp'.cellv 2 rfl; have p3 : w2.cell? ⟨w.heap.size + 1, 3, none⟩ = some (.int .u32 h') := hp'.cellv 3 rfl; have p4 : w2.cell? ⟨w.heap.size + 1, 4, none⟩ = some (.int .i64 m') := hp'.cellv 4 rfl; have p5 : w2.cell? ⟨w.heap.size + 1, 5, none⟩ = some (.bool b') := hp'.cellv 5 rfl; have p6 : w2.cell? ⟨w.heap.size + 1, 6, none⟩ = some (.slice A2' n2' c2') := hp'.cellv 6 rfl; have ql := hp.lt; have pl := hp'.lt)
      | (with_reducible refine (hE2 _ hb2).mono ?_; rintro e w3 ⟨rfl, hb3⟩))
    go_ret
    exact ⟨ret_bool e.out.symm, hB.trans ((hb2.trans (hb3.mono hb2.size)).mono hz)⟩
  rw [d2] at hE2
  have e := Lib.hid (show sameU l1 l2 o zs h m b l1' l2' o' zs' h' m' b' = sameA o zs h m b o' zs' h' m' b' by unfold sameU; rw [k1.out, d2]; rfl)
  replace d2 := Lib.hid d2
  go_wp2_with (first
    | (go_at_call 34; first
      | (with_reducible refine hE1.mono ?_; rintro e w2 ⟨rfl, hb2⟩; replace hp := hp.below hb2 hp.lt; replace hp' := hp'.below hb2 hp'.lt; clear q0 q1 q2 q3 q4 q5 q6 ql p0 p1 p2 p3 p4 p5 p6 pl; have q0 : w2.cell? ⟨w.heap.size, 0, none⟩ = some (.slice A1 n1 c1) := hp.cellv 0 rfl; have q1 : w2.cell? ⟨w.heap.size, 1, none⟩ = some (.int .i64 o) := hp.cellv 1 rfl; have q2 : w2.cell? ⟨w.heap.size, 2, none⟩ = some (.slice A n c) := hp.cellv 2 rfl; have q3 : w2.cell? ⟨w.heap.size, 3, none⟩ = some (.int .u32 h) := hp.cellv 3 rfl; have q4 : w2.cell? ⟨w.heap.size, 4, none⟩ = some (.int .i64 m) := hp.cellv 4 rfl; have q5 : w2.cell? ⟨w.heap.size, 5, none⟩ = some (.bool b) := hp.cellv 5 rfl; have q6 : w2.cell? ⟨w.heap.size, 6, none⟩ = some (.slice A2 n2 c2) := hp.cellv 6 rfl; have p0 : w2.cell? ⟨w.heap.size + 1, 0, none⟩ = some (.slice A1' n1' c1') := hp'.cellv 0 rfl; have p1 : w2.cell? ⟨w.heap.size + 1, 1, none⟩ = some (.int .i64 o') := hp'.cellv 1 rfl; have p2 : w2.cell? ⟨w.heap.size + 1, 2, none⟩ = some (.slice A' n' c') := hp'.cellv 2 rfl; have p3 : w2.cell? ⟨w.heap.size + 1, 3, none⟩ = some (.int .u32 h') := hp'.cellv 3 rfl; have p4 : w2.cell? ⟨w.heap.size + 1, 4, none⟩ = some (.int .i64 m') := hp'.cellv 4 rfl; have p5 : w2.cell? ⟨w.heap.size + 1, 5, none⟩ = some (.bool b') := hp'.cellv 5 rfl; have p6 : w2.cell? ⟨w.heap.size + 1, 6, none⟩ = some (.slice A2' n2' c2') := hp'.cellv 6 rfl; have ql := hp.lt; have pl := hp'.lt)
      | (with_reducible refine (hE2 _ hb2).mono ?_; rintro e w3 ⟨rfl, hb3⟩; have hb3b := hb2.trans (hb3.mono hb2.size); replace hp := hp.below hb3 hp.lt; replace hp' := hp'.below hb3 hp'.lt; clear q0 q1 q2 q3 q4 q5 q6 ql p0 p1 p2 p3 p4 p5 p6 pl; have q0 : w3.cell? ⟨w.heap.size, 0, none⟩ = some (.slice A1 n1 c1) := hp.cellv 0 rfl; have q1 : w3.cell? ⟨w.heap.size, 1, none⟩ = some (.int .i64 o) := hp.cellv 1 rfl; have q2 : w3.cell? ⟨w.heap.size, 2, none⟩ = some (.slice A n c) := hp.cellv 2 rfl; have q3 : w3.cell? ⟨w.heap.size, 3, none⟩ = some (.int .u32 h) := hp.cellv 3 rfl; have q4 : w3.cell? ⟨w.heap.size, 4, none⟩ = some (.int .i64 m) := hp.cellv 4 rfl; have q5 : w3.cell? ⟨w.heap.size, 5, none⟩ = some (.bool b) := hp.cellv 5 rfl; have q6 : w3.cell? ⟨w.heap.size, 6, none⟩ = some (.slice A2 n2 c2) := hp.cellv 6 rfl; have p0 : w3.cell? ⟨w.heap.size + 1, 0, none⟩ = some (.slice A1' n1' c1') := hp'.cellv 0 rfl; have p1 : w3.cell? ⟨w.heap.size + 1, 1, none⟩ = some (.int .i64 o') := hp'.cellv 1 rfl; have p2 : w3.cell? ⟨w.heap.size + 1, 2, none⟩ = some (.slice A' n' c') := hp'.cellv 2 rfl; have p3 : w3.cell? ⟨w.heap.size + 1, 3, none⟩ = some (.int .u32 h') := hp'.cellv 3 rfl; have p4 : w3.cell? ⟨w.heap.size + 1, 4, none⟩ = some (.int .i64 m') := hp'.cellv 4 rfl; have p5 : w3.cell? ⟨w.heap.size + 1, 5, none⟩ = some (.bool b') := hp'.cellv 5 rfl; have p6 : w3.cell? ⟨w.heap.size + 1, 6, none⟩ = some (.slice A2' n2' c2') := hp'.cellv 6 rfl; have ql := hp.lt; have pl := hp'.lt))
    | (go_at_call 29; refine (refSame7_any w3 o A n c zs h m b o' A' n' c' zs' h' m' b' (u1.nx hb3b).pa (u1'.nx hb3b).pa z3).mono ?_; rintro e w4 ⟨rfl, hb4⟩))
  go_ret
  exact ⟨ret_bool e.out.symm, hB.trans ((hb3b.trans (hb4.mono hb3b.size)).mono hz)⟩
set_option maxRecDepth 100000 in
set_option maxHeartbeats 4000000 in
theorem upEmpty_any (w : World) (A1 : Option Addr) (n1 c1 : Nat) (l1 : List (Int × Int)) (o : Int) (A : Option Addr) (n c : Nat) (zs : List Int) (h m : Int) (b : Bool) (A2 : Option Addr) (n2 c2 : Nat) (l2 : List (Int × Int)) (z1 : n1 ≤ 1000000) (z2 : n2 ≤ 1000000) :
    Calls Try.prog 18 #[.agg #[.slice A1 n1 c1, .int .i64 o, .slice A n c, .int .u32 h, .int .i64 m, .bool b, .slice A2 n2 c2]] w fun e w' => e = .returned (.bool (decide (n1 + n2 = 0))) ∧ Below w.heap.size w w' := by
  have hB := (Below.refl w.heap.size w).alloc (Nat.le_refl _) (.cells #[.slice A1 n1 c1, .int .i64 o, .slice A n c, .int .u32 h, .int .i64 m, .bool b, .slice A2 n2 c2] 28)
  have k1 := IntWalk.i64_in ((n1 : Int) + (n2 : Int)) (by omega)
  go_enter Try.func18, Try.ntmps18
  go_wp2_with fail
  go_ret
  exact ⟨ret_bool (by rw [Bool.eq_iff_iff]; simp; omega), hB⟩
end Go.Proofs.Ytfnclmacodchfaa

/- update: plain, light, lives. -/
namespace Go.Proofs.Ytfnclmacodchfaa
set_option linter.unusedVariables false
open Go Go.RowKit

def lightU (n1 n2 n : Nat) : Bool := decide (n1 ≤ 2000 ∧ n2 ≤ 2000 ∧ n ≤ 300)
set_option maxRecDepth 100000 in
set_option maxHeartbeats 4000000 in
theorem plain9_any (w : World) (A1 : Option Addr) (n1 c1 : Nat) (o : Int) (A : Option Addr) (n c : Nat) (h m : Int) (b : Bool) (A2 : Option Addr) (n2 c2 : Nat) :
    Calls Try.prog 9 #[.agg #[.slice A1 n1 c1, .int .i64 o, .slice A n c, .int .u32 h, .int .i64 m, .bool b, .slice A2 n2 c2]] w fun e w' => e = .returned (.agg #[.slice A1 n1 c1, .int .i64 o, .slice A n c, .int .u32 h, .int .i64 m, .bool b, .slice A2 n2 c2]) ∧ Below w.heap.size w w' := by
  have hi : (Try.prog.info? 33).map (·.size) = some 7 := by kernel_rfl
  have hB := ((Below.refl w.heap.size w).alloc (Nat.le_refl _) (.cells #[.slice A1 n1 c1, .int .i64 o, .slice A n c, .int .u32 h, .int .i64 m, .bool b, .slice A2 n2 c2] 28)).alloc (by simp) (.cells #[.slice none 0 0, .int .i64 0, .slice none 0 0, .int .u32 0, .int .i64 0, .bool false, .slice none 0 0] 33)
  have hp := (Blk.new w 28 #[.slice A1 n1 c1, .int .i64 o, .slice A n c, .int .u32 h, .int .i64 m, .bool b, .slice A2 n2 c2]).alloc (.cells #[.slice none 0 0, .int .i64 0, .slice none 0 0, .int .u32 0, .int .i64 0, .bool false, .slice none 0 0] 33)
  have hp' : Blk ((w.alloc (.cells #[.slice A1 n1 c1, .int .i64 o, .slice A n c, .int .u32 h, .int .i64 m, .bool b, .slice A2 n2 c2] 28)).alloc (.cells #[.slice none 0 0, .int .i64 0, .slice none 0 0, .int .u32 0, .int .i64 0, .bool false, .slice none 0 0] 33)) (w.heap.size + 1) 33 #[.slice none 0 0, .int .i64 0, .slice none 0 0, .int .u32 0, .int .i64 0, .bool false, .slice none 0 0] := by
    have := Blk.new (w.alloc (.cells #[.slice A1 n1 c1, .int .i64 o, .slice A n c, .int .u32 h, .int .i64 m, .bool b, .slice A2 n2 c2] 28)) 33 #[.slice none 0 0, .int .i64 0, .slice none 0 0, .int .u32 0, .int .i64 0, .bool false, .slice none 0 0]
    simpa using this
  go_enter Try.func9, Try.ntmps9
  go_upto_region 1 with (fail)
  generalize (w.alloc (.cells #[.slice A1 n1 c1, .int .i64 o, .slice A n c, .int .u32 h, .int .i64 m, .bool b, .slice A2 n2 c2] 28)).alloc (.cells #[.slice none 0 0, .int .i64 0, .slice none 0 0, .int .u32 0, .int .i64 0, .bool false, .slice none 0 0] 33) = w1 at *
  have hz := hB.size
  have q0 : w1.cell? ⟨w.heap.size, 0, none⟩ = some (.slice A1 n1 c1) := hp.cellv 0 rfl
  have q1 : w1.cell? ⟨w.heap.size, 1, none⟩ = some (.int .i64 o) := hp.cellv 1 rfl
  have q2 : w1.cell? ⟨w.heap.size, 2, none⟩ = some (.slice A n c) := hp.cellv 2 rfl
  have q3 : w1.cell? ⟨w.heap.size, 3, none⟩ = some (.int .u32 h) := hp.cellv 3 rfl
  have q4 : w1.cell? ⟨w.heap.size, 4, none⟩ = some (.int .i64 m) := hp.cellv 4 rfl
  have q5 : w1.cell? ⟨w.heap.size, 5, none⟩ = some (.bool b) := hp.cellv 5 rfl
  have q6 : w1.cell? ⟨w.heap.size, 6, none⟩ = some (.slice A2 n2 c2) := hp.cellv 6 rfl
  have ql := hp.lt
  go_wp2_with (refine wpList_store_blk rfl hp' 33 (.tmp 2) (.tmp 9) rfl rfl rfl rfl hi (by simp [Value.oneCell']) ?_; intro w9 hr9 hg9)
  refine bodyPost_ret (results_c rfl _ rfl (load_blk hr9 Try.underlying33 rfl hi)) rfl ?_
  exact ⟨rfl, below_own hB hg9 hB.size (by omega)⟩
set_option maxRecDepth 100000 in
set_option maxHeartbeats 4000000 in
theorem light9_any (w : World) (A1 : Option Addr) (n1 c1 : Nat) (o : Int) (A : Option Addr) (n c : Nat) (h m : Int) (b : Bool) (A2 : Option Addr) (n2 c2 : Nat) :
    Calls Try.prog 7 #[.agg #[.slice A1 n1 c1, .int .i64 o, .slice A n c, .int .u32 h, .int .i64 m, .bool b, .slice A2 n2 c2]] w fun e w' => e = .returned (.bool (lightU n1 n2 n)) ∧ Below w.heap.size w w' := by
  have hB := (Below.refl w.heap.size w).alloc (Nat.le_refl _) (.cells #[.slice A1 n1 c1, .int .i64 o, .slice A n c, .int .u32 h, .int .i64 m, .bool b, .slice A2 n2 c2] 28)
  go_enter Try.func7, Try.ntmps7
  by_cases h1 : n1 ≤ 2000
  rotate_left
  · have k1 : ¬ ((n1 : Int) ≤ 2000) := by omega
    have e := Lib.hid (show false = lightU n1 n2 n by unfold lightU; symm; rw [decide_eq_false_iff_not]; omega)
    go_wp2_with fail
    go_ret
    exact ⟨ret_bool e.out, hB⟩
  have k1 : (n1 : Int) ≤ 2000 := by omega
  by_cases h2 : n2 ≤ 2000
  rotate_left
  · have k2 : ¬ ((n2 : Int) ≤ 2000) := by omega
    have e := Lib.hid (show false = lightU n1 n2 n by unfold lightU; symm; rw [decide_eq_false_iff_not]; omega)
    go_wp2_with fail
    go_ret
    exact ⟨ret_bool e.out, hB⟩
  have k2 : (n2 : Int) ≤ 2000 := by omega
  by_cases h3 : n ≤ 300
  rotate_left
  · have k3 : ¬ ((n : Int) ≤ 300) := by omega
    have e := Lib.hid (show false = lightU n1 n2 n by unfold lightU; symm; rw [decide_eq_false_iff_not]; omega)
    go_wp2_with fail
    go_ret
    exact ⟨ret_bool e.out, hB⟩
  have k3 : (n : Int) ≤ 300 := by omega
  have e := Lib.hid (show true = lightU n1 n2 n by unfold lightU; symm; rw [decide_eq_true_eq]; omega)
  go_wp2_with fail
  go_ret
  exact ⟨ret_bool e.out, hB⟩
theorem lives9_bytes : upB [] [] 0 [] 0 0 false = [0, 0, 0, 0] := by decide
theorem UpR.none_ (w : World) : UpR w none 0 [] none 0 [] 0 none 0 [] := ⟨⟨rfl, by simp, fun h => absurd h (by omega)⟩, ⟨rfl, by simp, fun h => absurd h (by omega)⟩, Nums.zero w, by omega, by omega⟩
set_option maxRecDepth 100000 in
theorem lives9_any (w : World) : Calls Try.prog 8 #[] w fun e w' => e = .returned (.bool true) ∧ Below w.heap.size w w' := by
  go_enter Try.func8, Try.ntmps8
  go_wp2_with fail
  refine (upBytes_any w none 0 0 [] 0 none 0 0 [] 0 0 false none 0 0 [] (UpR.none_ w) (by omega) (by omega) (by omega)).mono ?_
  rintro e w1 ⟨v1, rfl, own1, hB⟩
  rw [lives9_bytes, show ([0, 0, 0, 0] : List UInt8).length = 4 from rfl] at own1
  have hs := own1.str
  rw [show strB [0, 0, 0, 0] = ⟨#[0, 0, 0, 0]⟩ from rfl] at hs
  obtain ⟨A1, c1, rfl, _, _, _⟩ := own1.any
  go_wp2_with fail
  go_ret
  exact ⟨rfl, hB⟩
end Go.Proofs.Ytfnclmacodchfaa

/- Opening structs with structs in them. -/
namespace Go.Proofs.Ytfnclmacodchfaa
set_option linter.unusedVariables false
open Go Go.RowKit Go.ChangeShapes Go.WideShapes Go.ChangeAt

section
variable {H : Type} {enc : TypeId × Value → H} {P : Program} {W : World} {base b0 : Nat} {spare : Nat → Bool} {held : Bool} {r : Reach}
/-- a struct by value: its cells, and how they read. -/
theorem open_whole {t : TypeId} {fs : Array Field} {N : Nat} {v : Value} {d : DataW H} {p : List MemPlace} (hs : P.underlying t = some (.struct fs)) (hC : P.cellsOf t = N)
    (hv : Value.okWide P W r b0 t v) (h : DataW.Trod enc P W base spare held t v d p) :
    ∃ (cs : List Value) (n : Nat) (x : DataW H × List MemPlace), v = .agg cs.toArray ∧ cs.length = N ∧ DataW.trod enc P W base spare held n t cs = some x := by
  obtain ⟨cs, rfl, hsz⟩ := okWide_struct hs hv
  obtain ⟨fuel, hf⟩ := h
  exact ⟨cs.toList, fuel, _, rfl, by simpa using hsz.trans hC, hf⟩
/-- a field of it. -/
theorem trod_field {t T : TypeId} {fs : Array Field} {n off k : Nat} {cs : List Value} {x : DataW H × List MemPlace} {f : Field} (hs : P.underlying t = some (.struct fs)) (h : DataW.trod enc P W base spare held n t cs = some x) (j : Nat)
    (hf : fs[j]? = some f) (ho : f.offset = off) (hT : f.type = T) (hk : P.cellsOf T = k) : ∃ (n' : Nat) (y : DataW H × List MemPlace), DataW.trod enc P W base spare held n' T ((cs.drop off).take k) = some y := by
  obtain ⟨xs, n', _, _, _, hlen, hg⟩ := DataW.trod_struct hs h
  have hj : j < xs.length := by rw [hlen]; exact (Array.getElem?_eq_some_iff.1 hf).1
  have := hg j f hf
  rw [List.getElem?_eq_getElem hj, ho, hT, hk] at this
  exact ⟨n', _, this⟩
end
end Go.Proofs.Ytfnclmacodchfaa

/- rows of prefixes in a law's argument. -/
namespace Go.Proofs.Ytfnclmacodchfaa
set_option linter.unusedVariables false
open Go.RowKit

section
variable {H : Type} {enc : TypeId × Value → H} {P : Program} {W : World} {base : Nat} {spare : Nat → Bool} {held : Bool}
open Go.ChangeShapes Go.WideShapes Go.ChangeAt
/-- prefixes in a law's argument. -/
theorem field_pfs {t e : TypeId} {fs : Array Field} {u : Value} {n : Nat} {y : DataW H × List MemPlace} {f0 f1 : Field} (ht : P.underlying t = some (.slice e)) (hs : P.underlying e = some (.struct fs)) (hone : Go.Deep.oneCellFields P fs = true) (hC : P.cellsOf e = fs.size) (hz : fs.size = 2)
    (g0 : fs[0]? = some f0) (g1 : fs[1]? = some f1) (u0 : P.underlying f0.type = some (.int .u32)) (u1 : P.underlying f1.type = some (.int .i64))
    (h : DataW.trod enc P W base spare held n t [u] = some y) :
    ∃ A len cap cs, u = .slice A len cap ∧ len ≤ cap ∧ cap ≤ maxLen ∧ Seen pfK W (fun b => b < W.heap.size) A len cs := by
  obtain ⟨A, len, cap, vs, rfl, h1, h2, h3, h4⟩ := field_rows ht hs hone hC (by omega) h
  rw [hz] at h3
  obtain ⟨rs, hrs⟩ := seen_of_flat (R := pfK) h3 fun i hi => by
    obtain ⟨n0, y0, t0⟩ := h4 i hi 0 f0 g0
    obtain ⟨n1, y1, t1⟩ := h4 i hi 1 f1 g1
    obtain ⟨z0, e0, k0⟩ := field_int u0 t0
    obtain ⟨z1, e1, _⟩ := field_int u1 t1
    rw [hz] at e0 e1
    refine ⟨(z0, z1), fun j hj => ?_, (bounds_u32 k0).1, by have := (bounds_u32 k0).2; omega⟩
    show [Value.int .u32 z0, .int .i64 z1][j]? = some (vs (i * 2 + j))
    match j, hj with
    | 0, _ => rw [e0]; rfl
    | 1, _ => rw [e1]; rfl
  exact ⟨A, len, cap, rs, rfl, h1, h2, hrs⟩
end
end Go.Proofs.Ytfnclmacodchfaa

/- update: UpdateForms, the walk. -/
namespace Go.Proofs.Ytfnclmacodchfaa
set_option linter.unusedVariables false
open Go Go.RowKit

set_option maxRecDepth 100000 in
set_option maxHeartbeats 16000000 in
theorem forms9_walk (A1 : Option Addr) (n1 c1 : Nat) (l1 : List (Int × Int)) (o : Int) (A : Option Addr) (n c : Nat) (zs : List Int) (h m : Int) (b : Bool) (A2 : Option Addr) (n2 c2 : Nat) (l2 : List (Int × Int)) (A1' : Option Addr) (n1' c1' : Nat) (l1' : List (Int × Int)) (o' : Int) (A' : Option Addr) (n' c' : Nat) (zs' : List Int) (h' m' : Int) (b' : Bool) (A2' : Option Addr) (n2' c2' : Nat) (l2' : List (Int × Int)) (w : World) (_ : n1 ≤ c1) (_ : c1 ≤ maxLen) (hs1 : Seen pfK w (fun b => b < w.heap.size) A1 n1 l1) (_ : (Lit.int .i64 o).wf = true) (_ : n ≤ c) (_ : c ≤ maxLen) (hN : Nums .i64 w w.heap.size A n zs) (hh : (Lit.int .u32 h).wf = true) (_ : (Lit.int .i64 m).wf = true) (_ : n2 ≤ c2) (_ : c2 ≤ maxLen) (hs2 : Seen pfK w (fun b => b < w.heap.size) A2 n2 l2) (_ : n1' ≤ c1') (_ : c1' ≤ maxLen) (hs1' : Seen pfK w (fun b => b < w.heap.size) A1' n1' l1') (_ : (Lit.int .i64 o').wf = true) (_ : n' ≤ c') (_ : c' ≤ maxLen) (hN' : Nums .i64 w w.heap.size A' n' zs') (hh' : (Lit.int .u32 h').wf = true) (_ : (Lit.int .i64 m').wf = true) (_ : n2' ≤ c2') (_ : c2' ≤ maxLen) (hs2' : Seen pfK w (fun b => b < w.heap.size) A2' n2' l2') :
    Calls Try.prog 3 #[.agg #[.slice A1 n1 c1, .int .i64 o, .slice A n c, .int .u32 h, .int .i64 m, .bool b, .slice A2 n2 c2], .agg #[.slice A1' n1' c1', .int .i64 o', .slice A' n' c', .int .u32 h', .int .i64 m', .bool b', .slice A2' n2' c2']] w fun e w' => e = .returned (.bool true) ∧ Below w.heap.size w w' := by
  have u : UpR w A1 n1 l1 A n zs h A2 n2 l2 := ⟨hs1, hs2, hN, (bounds_u32 hh).1, by have := (bounds_u32 hh).2; omega⟩
  have u' : UpR w A1' n1' l1' A' n' zs' h' A2' n2' l2' := ⟨hs1', hs2', hN', (bounds_u32 hh').1, by have := (bounds_u32 hh').2; omega⟩
  clear hs1 hs2 hN hs1' hs2' hN'
  have hB := ((Below.refl w.heap.size w).alloc (Nat.le_refl _) (.cells #[.slice A1 n1 c1, .int .i64 o, .slice A n c, .int .u32 h, .int .i64 m, .bool b, .slice A2 n2 c2] 28)).alloc (by simp) (.cells #[.slice A1' n1' c1', .int .i64 o', .slice A' n' c', .int .u32 h', .int .i64 m', .bool b', .slice A2' n2' c2'] 28)
  have hq := (Blk.new w 28 #[.slice A1 n1 c1, .int .i64 o, .slice A n c, .int .u32 h, .int .i64 m, .bool b, .slice A2 n2 c2]).alloc (.cells #[.slice A1' n1' c1', .int .i64 o', .slice A' n' c', .int .u32 h', .int .i64 m', .bool b', .slice A2' n2' c2'] 28)
  have hq' : Blk ((w.alloc (.cells #[.slice A1 n1 c1, .int .i64 o, .slice A n c, .int .u32 h, .int .i64 m, .bool b, .slice A2 n2 c2] 28)).alloc (.cells #[.slice A1' n1' c1', .int .i64 o', .slice A' n' c', .int .u32 h', .int .i64 m', .bool b', .slice A2' n2' c2'] 28)) (w.heap.size + 1) 28 #[.slice A1' n1' c1', .int .i64 o', .slice A' n' c', .int .u32 h', .int .i64 m', .bool b', .slice A2' n2' c2'] := by
    have := Blk.new (w.alloc (.cells #[.slice A1 n1 c1, .int .i64 o, .slice A n c, .int .u32 h, .int .i64 m, .bool b, .slice A2 n2 c2] 28)) 28 #[.slice A1' n1' c1', .int .i64 o', .slice A' n' c', .int .u32 h', .int .i64 m', .bool b', .slice A2' n2' c2']
    simpa using this
  replace u := u.nx hB
  replace u' := u'.nx hB
  go_enter Try.func3, Try.ntmps3
  go_wp2_with fail
  refine (light9_any _ A1 n1 c1 o A n c h m b A2 n2 c2).mono ?_
  rintro e w1 ⟨rfl, hb⟩
  replace hq := hq.below hb hq.lt
  replace hq' := hq'.below hb hq'.lt
  replace hB := hB.trans (hb.mono hB.size)
  replace u := u.nx hb
  replace u' := u'.nx hb
  clear hb
  cases hx : lightU n1 n2 n
  · replace hx := Lib.hid hx
    go_wp2_with fail
    refine (lives9_any _).mono ?_
    rintro e w2 ⟨rfl, hb⟩
    go_wp2_with fail
    go_ret
    exact ⟨rfl, hB.trans (hb.mono hB.size)⟩
  have hn : n1 ≤ 2000 ∧ n2 ≤ 2000 ∧ n ≤ 300 := by unfold lightU at hx; exact of_decide_eq_true hx
  replace hx := Lib.hid hx
  clear hx
  have p0 : w1.cell? ⟨w.heap.size + 1, 0, none⟩ = some (.slice A1' n1' c1') := hq'.cellv 0 rfl
  have p1 : w1.cell? ⟨w.heap.size + 1, 1, none⟩ = some (.int .i64 o') := hq'.cellv 1 rfl
  have p2 : w1.cell? ⟨w.heap.size + 1, 2, none⟩ = some (.slice A' n' c') := hq'.cellv 2 rfl
  have p3 : w1.cell? ⟨w.heap.size + 1, 3, none⟩ = some (.int .u32 h') := hq'.cellv 3 rfl
  have p4 : w1.cell? ⟨w.heap.size + 1, 4, none⟩ = some (.int .i64 m') := hq'.cellv 4 rfl
  have p5 : w1.cell? ⟨w.heap.size + 1, 5, none⟩ = some (.bool b') := hq'.cellv 5 rfl
  have p6 : w1.cell? ⟨w.heap.size + 1, 6, none⟩ = some (.slice A2' n2' c2') := hq'.cellv 6 rfl
  have pl := hq'.lt
  go_wp2_with fail
  refine (light9_any _ A1' n1' c1' o' A' n' c' h' m' b' A2' n2' c2').mono ?_
  rintro e w2 ⟨rfl, hb⟩
  replace hq := hq.below hb hq.lt
  replace hq' := hq'.below hb hq'.lt
  replace hB := hB.trans (hb.mono hB.size)
  replace u := u.nx hb
  replace u' := u'.nx hb
  clear hb p0 p1 p2 p3 p4 p5 p6 pl
  cases hx : lightU n1' n2' n'
  · replace hx := Lib.hid hx
    go_wp2_with fail
    refine (lives9_any _).mono ?_
    rintro e w2 ⟨rfl, hb⟩
    go_wp2_with fail
    go_ret
    exact ⟨rfl, hB.trans (hb.mono hB.size)⟩
  have hn' : n1' ≤ 2000 ∧ n2' ≤ 2000 ∧ n' ≤ 300 := by unfold lightU at hx; exact of_decide_eq_true hx
  clear hx
  have q0 : w2.cell? ⟨w.heap.size, 0, none⟩ = some (.slice A1 n1 c1) := hq.cellv 0 rfl
  have q1 : w2.cell? ⟨w.heap.size, 1, none⟩ = some (.int .i64 o) := hq.cellv 1 rfl
  have q2 : w2.cell? ⟨w.heap.size, 2, none⟩ = some (.slice A n c) := hq.cellv 2 rfl
  have q3 : w2.cell? ⟨w.heap.size, 3, none⟩ = some (.int .u32 h) := hq.cellv 3 rfl
  have q4 : w2.cell? ⟨w.heap.size, 4, none⟩ = some (.int .i64 m) := hq.cellv 4 rfl
  have q5 : w2.cell? ⟨w.heap.size, 5, none⟩ = some (.bool b) := hq.cellv 5 rfl
  have q6 : w2.cell? ⟨w.heap.size, 6, none⟩ = some (.slice A2 n2 c2) := hq.cellv 6 rfl
  have ql := hq.lt
  go_upto_region 4 with (go_at_call 9; refine (plain9_any w2 A1 n1 c1 o A n c h m b A2 n2 c2).mono ?_; rintro e w3 ⟨rfl, hb⟩)
  clear q0 q1 q2 q3 q4 q5 q6 ql
  replace hq := hq.below hb hq.lt
  replace hq' := hq'.below hb hq'.lt
  replace hB := hB.trans (hb.mono hB.size)
  replace u := u.nx hb
  replace u' := u'.nx hb
  clear hb
  have hb := (Below.refl w3.heap.size w3).alloc (Nat.le_refl _) (.cells #[.slice A1 n1 c1, .int .i64 o, .slice A n c, .int .u32 h, .int .i64 m, .bool b, .slice A2 n2 c2] 33)
  have hr := Blk.new w3 33 #[.slice A1 n1 c1, .int .i64 o, .slice A n c, .int .u32 h, .int .i64 m, .bool b, .slice A2 n2 c2]
  replace hq := hq.below hb hq.lt
  replace hq' := hq'.below hb hq'.lt
  replace hB := hB.trans (hb.mono hB.size)
  replace u := u.nx hb
  replace u' := u'.nx hb
  generalize w3.alloc (.cells #[.slice A1 n1 c1, .int .i64 o, .slice A n c, .int .u32 h, .int .i64 m, .bool b, .slice A2 n2 c2] 33) = w4 at *
  clear hb
  -- region 4: 0 1C 2 3C 4 5 6 7C 8 9 10C 11 12 13 14 15 16C 17 18C 19 20 21 22 23 24C 25 26 27C 28C 29 30 31 32 33C 34 35 36 37 38 39 40 41 42 43 44 45C 46 47
  try refine wp_region_noPanic ?_
  refine wp_region_lat (by kernel_rfl) ?_
  (refine lat_now 0 (by rfl) ?_ (by kernel_rfl) (fun _ _ _ h => h) ?_ ?_; rotate_left; (focus (intro wq hSw; refine exec_load_blk (x := .tmp 2) ?_ ?_ (hq.below hSw hq.lt) _ Try.underlying28 rfl (by kernel_rfl) <;> rfl)); simp only [Act.put, List.setIfInBounds_toArray, List.set_cons_zero, List.set_cons_succ])
  (refine lat_now 2 (by rfl) ?_ (by kernel_rfl) (fun _ _ _ h => h) ?_ ?_; rotate_left; (focus (intro wq hSw; refine exec_load_blk (x := .tmp 5) ?_ ?_ (hr.below hSw hr.lt) _ Try.underlying33 rfl (by kernel_rfl) <;> rfl)); simp only [Act.put, List.setIfInBounds_toArray, List.set_cons_zero, List.set_cons_succ])
  (refine lat_late 1 (by rfl) (.bool (goodU l1 l2 o zs h m b)) (by kernel_rfl) (fun _ _ _ h => h) (fun wq hSw => ⟨_, _, ?_, upGood_any wq A1 n1 c1 l1 o A n c zs h m b A2 n2 c2 l2 (u.nx hSw) (by omega) (by omega) (by omega)⟩) ?_; focus (go_simp; try with_reducible rfl; done); try simp only [Act.put, List.setIfInBounds_toArray, List.set_cons_zero, List.set_cons_succ])
  (refine lat_late 3 (by rfl) (.bool (goodU l1 l2 o zs h m b)) (by kernel_rfl) (fun _ _ _ h => h) (fun wq hSw => ⟨_, _, ?_, refUpGood_any wq A1 n1 c1 l1 o A n c zs h m b A2 n2 c2 l2 (u.nx hSw) (by omega) (by omega) (by omega)⟩) ?_; focus (go_simp; try with_reducible rfl; done); try simp only [Act.put, List.setIfInBounds_toArray, List.set_cons_zero, List.set_cons_succ])
  (refine lat_now 4 (by rfl) ?_ (by kernel_rfl) (fun _ _ _ h => h) ?_ ?_; rotate_left; (focus (intro wq hSw; have hrd : ∀ b o, b < w4.heap.size → wq.cell? ⟨b, o, none⟩ = w4.cell? ⟨b, o, none⟩ := (fun b o h => Below.cell hSw (p := ⟨b, o, none⟩) h); go_simp; try with_reducible rfl; done)); try simp only [Act.put, List.setIfInBounds_toArray, List.set_cons_zero, List.set_cons_succ])
  (refine lat_now 5 (by rfl) ?_ (by kernel_rfl) (fun _ _ _ h => h) ?_ ?_; rotate_left; (focus (intro wq hSw; have hrd : ∀ b o, b < w4.heap.size → wq.cell? ⟨b, o, none⟩ = w4.cell? ⟨b, o, none⟩ := (fun b o h => Below.cell hSw (p := ⟨b, o, none⟩) h); go_simp; try with_reducible rfl; done)); try simp only [Act.put, List.setIfInBounds_toArray, List.set_cons_zero, List.set_cons_succ])
  (refine lat_now 6 (by rfl) ?_ (by kernel_rfl) (fun _ _ _ h => h) ?_ ?_; rotate_left; (focus (intro wq hSw; refine exec_load_blk (x := .tmp 2) ?_ ?_ (hq.below hSw hq.lt) _ Try.underlying28 rfl (by kernel_rfl) <;> rfl)); simp only [Act.put, List.setIfInBounds_toArray, List.set_cons_zero, List.set_cons_succ])
  (refine lat_now 9 (by rfl) ?_ (by kernel_rfl) (fun _ _ _ h => h) ?_ ?_; rotate_left; (focus (intro wq hSw; refine exec_load_blk (x := .tmp 5) ?_ ?_ (hr.below hSw hr.lt) _ Try.underlying33 rfl (by kernel_rfl) <;> rfl)); simp only [Act.put, List.setIfInBounds_toArray, List.set_cons_zero, List.set_cons_succ])
  refine lat_call 7 (by rfl) (by kernel_rfl) (by rfl) (fun wx1 hx1 KQ hKQ => ?_)
  go_simp
  replace hq := hq.below hx1 hq.lt
  replace hq' := hq'.below hx1 hq'.lt
  replace hr := hr.below hx1 hr.lt
  replace hB := hB.trans (hx1.mono hB.size)
  replace u := u.nx hx1
  replace u' := u'.nx hx1
  refine (upBytes_any wx1 A1 n1 c1 l1 o A n c zs h m b A2 n2 c2 l2 u (by omega) (by omega) (by omega)).mono ?_
  rintro e w5 ⟨v, rfl, own, hb⟩
  obtain ⟨A5, c5, rfl, _, _, by5, _⟩ := own.any2
  clear own
  replace u := u.nx hb
  replace u' := u'.nx hb
  refine hKQ.out _ _ hb ?_
  clear hKQ KQ
  replace hq := hq.below hb hq.lt
  replace hq' := hq'.below hb hq'.lt
  replace hr := hr.below hb hr.lt
  replace hB := hB.trans (hb.mono hB.size)
  try simp only [Act.put, List.setIfInBounds_toArray, List.set_cons_zero, List.set_cons_succ]
  (refine lat_now 8 (by rfl) ?_ (by kernel_rfl) (fun _ _ _ h => h) ?_ ?_; rotate_left; (focus (intro wq hSw; have q := run_str wq (by5.below hSw) c5; go_simp; try with_reducible rfl; done)); simp only [Act.put, List.setIfInBounds_toArray, List.set_cons_zero, List.set_cons_succ])
  clear hb
  refine lat_call 10 (by rfl) (by kernel_rfl) (by rfl) (fun wx2 hx2 KQ hKQ => ?_)
  go_simp
  replace hq := hq.below hx2 hq.lt
  replace hq' := hq'.below hx2 hq'.lt
  replace hr := hr.below hx2 hr.lt
  replace hB := hB.trans (hx2.mono hB.size)
  replace u := u.nx hx2
  replace u' := u'.nx hx2
  refine (refUpBytes_any wx2 A1 n1 c1 l1 o A n c zs h m b A2 n2 c2 l2 u (by omega) (by omega) (by omega)).mono ?_
  rintro e w6 ⟨v, rfl, own, hb⟩
  obtain ⟨A6, c6, rfl, _, _, by6, _⟩ := own.any2
  clear own
  replace u := u.nx hb
  replace u' := u'.nx hb
  refine hKQ.out _ _ hb ?_
  clear hKQ KQ
  replace hq := hq.below hb hq.lt
  replace hq' := hq'.below hb hq'.lt
  replace hr := hr.below hb hr.lt
  replace hB := hB.trans (hb.mono hB.size)
  try simp only [Act.put, List.setIfInBounds_toArray, List.set_cons_zero, List.set_cons_succ]
  (refine lat_now 11 (by rfl) ?_ (by kernel_rfl) (fun _ _ _ h => h) ?_ ?_; rotate_left; (focus (intro wq hSw; have q := run_str wq (by6.below hSw) c6; go_simp; try with_reducible rfl; done)); simp only [Act.put, List.setIfInBounds_toArray, List.set_cons_zero, List.set_cons_succ])
  (refine lat_now 12 (by rfl) ?_ (by kernel_rfl) (fun _ _ _ h => h) ?_ ?_; rotate_left; (focus (intro wq hSw; have hrd : ∀ b o, b < w6.heap.size → wq.cell? ⟨b, o, none⟩ = w6.cell? ⟨b, o, none⟩ := (fun b o h => Below.cell hSw (p := ⟨b, o, none⟩) h); go_simp; try with_reducible rfl; done)); try simp only [Act.put, List.setIfInBounds_toArray, List.set_cons_zero, List.set_cons_succ])
  (refine lat_now 13 (by rfl) ?_ (by kernel_rfl) (fun _ _ _ h => h) ?_ ?_; rotate_left; (focus (intro wq hSw; have hrd : ∀ b o, b < w6.heap.size → wq.cell? ⟨b, o, none⟩ = w6.cell? ⟨b, o, none⟩ := (fun b o h => Below.cell hSw (p := ⟨b, o, none⟩) h); go_simp; try with_reducible rfl; done)); try simp only [Act.put, List.setIfInBounds_toArray, List.set_cons_zero, List.set_cons_succ])
  (refine lat_now 14 (by rfl) ?_ (by kernel_rfl) (fun _ _ _ h => h) ?_ ?_; rotate_left; (focus (intro wq hSw; have hrd : ∀ b o, b < w6.heap.size → wq.cell? ⟨b, o, none⟩ = w6.cell? ⟨b, o, none⟩ := (fun b o h => Below.cell hSw (p := ⟨b, o, none⟩) h); go_simp; try with_reducible rfl; done)); try simp only [Act.put, List.setIfInBounds_toArray, List.set_cons_zero, List.set_cons_succ])
  (refine lat_now 15 (by rfl) ?_ (by kernel_rfl) (fun _ _ _ h => h) ?_ ?_; rotate_left; (focus (intro wq hSw; refine exec_load_blk (x := .tmp 2) ?_ ?_ (hq.below hSw hq.lt) _ Try.underlying28 rfl (by kernel_rfl) <;> rfl)); simp only [Act.put, List.setIfInBounds_toArray, List.set_cons_zero, List.set_cons_succ])
  (refine lat_now 17 (by rfl) ?_ (by kernel_rfl) (fun _ _ _ h => h) ?_ ?_; rotate_left; (focus (intro wq hSw; refine exec_load_blk (x := .tmp 5) ?_ ?_ (hr.below hSw hr.lt) _ Try.underlying33 rfl (by kernel_rfl) <;> rfl)); simp only [Act.put, List.setIfInBounds_toArray, List.set_cons_zero, List.set_cons_succ])
  clear hb
  have lt0 := hq.lt
  have q0 : w6.cell? ⟨w.heap.size, 0, none⟩ = some (.slice A1 n1 c1) := hq.cellv 0 rfl
  have q6 : w6.cell? ⟨w.heap.size, 6, none⟩ = some (.slice A2 n2 c2) := hq.cellv 6 rfl
  have k9 := IntWalk.i64_in ((n1 : Int) + (n2 : Int)) (by omega)
  have k8 : ((((n1 : Int) + (n2 : Int))) == 0) = decide (n1 + n2 = 0) := by rw [Bool.eq_iff_iff]; simp; omega
  (refine lat_late 16 (by rfl) (.int .i64 (upSize l1 l2 o zs h m b)) (by kernel_rfl) (fun _ _ _ h => h) (fun wq hSw => ⟨_, _, ?_, upSize_any wq A1 n1 c1 l1 o A n c zs h m b A2 n2 c2 l2 (u.nx hSw) (by omega) (by omega) (by omega)⟩) ?_; focus (go_simp; try with_reducible rfl; done); try simp only [Act.put, List.setIfInBounds_toArray, List.set_cons_zero, List.set_cons_succ])
  (refine lat_late 18 (by rfl) (.int .i64 (upSize l1 l2 o zs h m b)) (by kernel_rfl) (fun _ _ _ h => h) (fun wq hSw => ⟨_, _, ?_, refUpSize_any wq A1 n1 c1 l1 o A n c zs h m b A2 n2 c2 l2 (u.nx hSw) (by omega) (by omega) (by omega)⟩) ?_; focus (go_simp; try with_reducible rfl; done); try simp only [Act.put, List.setIfInBounds_toArray, List.set_cons_zero, List.set_cons_succ])
  (refine lat_now 19 (by rfl) ?_ (by kernel_rfl) (fun _ _ _ h => h) ?_ ?_; rotate_left; (focus (intro wq hSw; have hrd : ∀ b o, b < w6.heap.size → wq.cell? ⟨b, o, none⟩ = w6.cell? ⟨b, o, none⟩ := (fun b o h => Below.cell hSw (p := ⟨b, o, none⟩) h); go_simp; try with_reducible rfl; done)); try simp only [Act.put, List.setIfInBounds_toArray, List.set_cons_zero, List.set_cons_succ])
  (refine lat_now 20 (by rfl) ?_ (by kernel_rfl) (fun _ _ _ h => h) ?_ ?_; rotate_left; (focus (intro wq hSw; have hrd : ∀ b o, b < w6.heap.size → wq.cell? ⟨b, o, none⟩ = w6.cell? ⟨b, o, none⟩ := (fun b o h => Below.cell hSw (p := ⟨b, o, none⟩) h); go_simp; try with_reducible rfl; done)); try simp only [Act.put, List.setIfInBounds_toArray, List.set_cons_zero, List.set_cons_succ])
  (refine lat_now 21 (by rfl) ?_ (by kernel_rfl) (fun _ _ _ h => h) ?_ ?_; rotate_left; (focus (intro wq hSw; have hrd : ∀ b o, b < w6.heap.size → wq.cell? ⟨b, o, none⟩ = w6.cell? ⟨b, o, none⟩ := (fun b o h => Below.cell hSw (p := ⟨b, o, none⟩) h); go_simp; try with_reducible rfl; done)); try simp only [Act.put, List.setIfInBounds_toArray, List.set_cons_zero, List.set_cons_succ])
  (refine lat_now 22 (by rfl) ?_ (by kernel_rfl) (fun _ _ _ h => h) ?_ ?_; rotate_left; (focus (intro wq hSw; refine exec_load_blk (x := .tmp 2) ?_ ?_ (hq.below hSw hq.lt) _ Try.underlying28 rfl (by kernel_rfl) <;> rfl)); simp only [Act.put, List.setIfInBounds_toArray, List.set_cons_zero, List.set_cons_succ])
  (refine lat_now 23 (by rfl) ?_ (by kernel_rfl) (fun _ _ _ h => h) ?_ ?_; rotate_left; (focus (intro wq hSw; refine exec_load_blk (x := .tmp 3) ?_ ?_ (hq'.below hSw hq'.lt) _ Try.underlying28 rfl (by kernel_rfl) <;> rfl)); simp only [Act.put, List.setIfInBounds_toArray, List.set_cons_zero, List.set_cons_succ])
  (refine lat_now 25 (by rfl) ?_ (by kernel_rfl) (fun _ _ _ h => h) ?_ ?_; rotate_left; (focus (intro wq hSw; refine exec_load_blk (x := .tmp 5) ?_ ?_ (hr.below hSw hr.lt) _ Try.underlying33 rfl (by kernel_rfl) <;> rfl)); simp only [Act.put, List.setIfInBounds_toArray, List.set_cons_zero, List.set_cons_succ])
  (refine lat_now 26 (by rfl) ?_ (by kernel_rfl) (fun _ _ _ h => h) ?_ ?_; rotate_left; (focus (intro wq hSw; refine exec_load_blk (x := .tmp 3) ?_ ?_ (hq'.below hSw hq'.lt) _ Try.underlying28 rfl (by kernel_rfl) <;> rfl)); simp only [Act.put, List.setIfInBounds_toArray, List.set_cons_zero, List.set_cons_succ])
  (refine lat_late 24 (by rfl) (.bool (sameU l1 l2 o zs h m b l1' l2' o' zs' h' m' b')) (by kernel_rfl) (fun _ _ _ h => h) (fun wq hSw => ⟨_, _, ?_, upSame_any wq A1 n1 c1 l1 o A n c zs h m b A2 n2 c2 l2 A1' n1' c1' l1' o' A' n' c' zs' h' m' b' A2' n2' c2' l2' (u.nx hSw) (u'.nx hSw) (by omega) (by omega) (by omega)⟩) ?_; focus (go_simp; try with_reducible rfl; done); try simp only [Act.put, List.setIfInBounds_toArray, List.set_cons_zero, List.set_cons_succ])
  (refine lat_late 27 (by rfl) (.agg #[.slice A1' n1' c1', .int .i64 o', .slice A' n' c', .int .u32 h', .int .i64 m', .bool b', .slice A2' n2' c2']) (by kernel_rfl) (fun _ _ _ h => h) (fun wq hSw => ⟨_, _, ?_, plain9_any wq A1' n1' c1' o' A' n' c' h' m' b' A2' n2' c2'⟩) ?_; focus (go_simp; try with_reducible rfl; done); try simp only [Act.put, List.setIfInBounds_toArray, List.set_cons_zero, List.set_cons_succ])
  (refine lat_late 28 (by rfl) (.bool (sameU l1 l2 o zs h m b l1' l2' o' zs' h' m' b')) (by kernel_rfl) (fun _ _ _ h => h) (fun wq hSw => ⟨_, _, ?_, refUpSame_any wq A1 n1 c1 l1 o A n c zs h m b A2 n2 c2 l2 A1' n1' c1' l1' o' A' n' c' zs' h' m' b' A2' n2' c2' l2' (u.nx hSw) (u'.nx hSw) (by omega) (by omega) (by omega)⟩) ?_; focus (go_simp; try with_reducible rfl; done); try simp only [Act.put, List.setIfInBounds_toArray, List.set_cons_zero, List.set_cons_succ])
  (refine lat_now 29 (by rfl) ?_ (by kernel_rfl) (fun _ _ _ h => h) ?_ ?_; rotate_left; (focus (intro wq hSw; have hrd : ∀ b o, b < w6.heap.size → wq.cell? ⟨b, o, none⟩ = w6.cell? ⟨b, o, none⟩ := (fun b o h => Below.cell hSw (p := ⟨b, o, none⟩) h); go_simp; try with_reducible rfl; done)); try simp only [Act.put, List.setIfInBounds_toArray, List.set_cons_zero, List.set_cons_succ])
  (refine lat_now 30 (by rfl) ?_ (by kernel_rfl) (fun _ _ _ h => h) ?_ ?_; rotate_left; (focus (intro wq hSw; have hrd : ∀ b o, b < w6.heap.size → wq.cell? ⟨b, o, none⟩ = w6.cell? ⟨b, o, none⟩ := (fun b o h => Below.cell hSw (p := ⟨b, o, none⟩) h); go_simp; try with_reducible rfl; done)); try simp only [Act.put, List.setIfInBounds_toArray, List.set_cons_zero, List.set_cons_succ])
  (refine lat_now 31 (by rfl) ?_ (by kernel_rfl) (fun _ _ _ h => h) ?_ ?_; rotate_left; (focus (intro wq hSw; have hrd : ∀ b o, b < w6.heap.size → wq.cell? ⟨b, o, none⟩ = w6.cell? ⟨b, o, none⟩ := (fun b o h => Below.cell hSw (p := ⟨b, o, none⟩) h); go_simp; try with_reducible rfl; done)); try simp only [Act.put, List.setIfInBounds_toArray, List.set_cons_zero, List.set_cons_succ])
  (refine lat_now 32 (by rfl) ?_ (by kernel_rfl) (fun _ _ _ h => h) ?_ ?_; rotate_left; (focus (intro wq hSw; refine exec_load_blk (x := .tmp 2) ?_ ?_ (hq.below hSw hq.lt) _ Try.underlying28 rfl (by kernel_rfl) <;> rfl)); simp only [Act.put, List.setIfInBounds_toArray, List.set_cons_zero, List.set_cons_succ])
  (refine lat_now 34 (by rfl) ?_ (by kernel_rfl) (fun _ _ _ h => h) ?_ ?_; rotate_left; (focus (intro wq hSw; have hrd : ∀ b o, b < w6.heap.size → wq.cell? ⟨b, o, none⟩ = w6.cell? ⟨b, o, none⟩ := (fun b o h => Below.cell hSw (p := ⟨b, o, none⟩) h); go_simp; try with_reducible rfl; done)); try simp only [Act.put, List.setIfInBounds_toArray, List.set_cons_zero, List.set_cons_succ])
  (refine lat_now 35 (by rfl) ?_ (by kernel_rfl) (fun _ _ _ h => h) ?_ ?_; rotate_left; (focus (intro wq hSw; have hrd : ∀ b o, b < w6.heap.size → wq.cell? ⟨b, o, none⟩ = w6.cell? ⟨b, o, none⟩ := (fun b o h => Below.cell hSw (p := ⟨b, o, none⟩) h); go_simp; try with_reducible rfl; done)); try simp only [Act.put, List.setIfInBounds_toArray, List.set_cons_zero, List.set_cons_succ])
  (refine lat_now 36 (by rfl) ?_ (by kernel_rfl) (fun _ _ _ h => h) ?_ ?_; rotate_left; (focus (intro wq hSw; have hrd : ∀ b o, b < w6.heap.size → wq.cell? ⟨b, o, none⟩ = w6.cell? ⟨b, o, none⟩ := (fun b o h => Below.cell hSw (p := ⟨b, o, none⟩) h); go_simp; try with_reducible rfl; done)); try simp only [Act.put, List.setIfInBounds_toArray, List.set_cons_zero, List.set_cons_succ])
  (refine lat_now 37 (by rfl) ?_ (by kernel_rfl) (fun _ _ _ h => h) ?_ ?_; rotate_left; (focus (intro wq hSw; have hrd : ∀ b o, b < w6.heap.size → wq.cell? ⟨b, o, none⟩ = w6.cell? ⟨b, o, none⟩ := (fun b o h => Below.cell hSw (p := ⟨b, o, none⟩) h); go_simp; try with_reducible rfl; done)); try simp only [Act.put, List.setIfInBounds_toArray, List.set_cons_zero, List.set_cons_succ])
  (refine lat_now 38 (by rfl) ?_ (by kernel_rfl) (fun _ _ _ h => h) ?_ ?_; rotate_left; (focus (intro wq hSw; have hrd : ∀ b o, b < w6.heap.size → wq.cell? ⟨b, o, none⟩ = w6.cell? ⟨b, o, none⟩ := (fun b o h => Below.cell hSw (p := ⟨b, o, none⟩) h); go_simp; try with_reducible rfl; done)); try simp only [Act.put, List.setIfInBounds_toArray, List.set_cons_zero, List.set_cons_succ])
  (refine lat_now 39 (by rfl) ?_ (by kernel_rfl) (fun _ _ _ h => h) ?_ ?_; rotate_left; (focus (intro wq hSw; have hrd : ∀ b o, b < w6.heap.size → wq.cell? ⟨b, o, none⟩ = w6.cell? ⟨b, o, none⟩ := (fun b o h => Below.cell hSw (p := ⟨b, o, none⟩) h); go_simp; try with_reducible rfl; done)); try simp only [Act.put, List.setIfInBounds_toArray, List.set_cons_zero, List.set_cons_succ])
  (refine lat_now 40 (by rfl) ?_ (by kernel_rfl) (fun _ _ _ h => h) ?_ ?_; rotate_left; (focus (intro wq hSw; have hrd : ∀ b o, b < w6.heap.size → wq.cell? ⟨b, o, none⟩ = w6.cell? ⟨b, o, none⟩ := (fun b o h => Below.cell hSw (p := ⟨b, o, none⟩) h); go_simp; try with_reducible rfl; done)); try simp only [Act.put, List.setIfInBounds_toArray, List.set_cons_zero, List.set_cons_succ])
  (refine lat_now 41 (by rfl) ?_ (by kernel_rfl) (fun _ _ _ h => h) ?_ ?_; rotate_left; (focus (intro wq hSw; have hrd : ∀ b o, b < w6.heap.size → wq.cell? ⟨b, o, none⟩ = w6.cell? ⟨b, o, none⟩ := (fun b o h => Below.cell hSw (p := ⟨b, o, none⟩) h); go_simp; try with_reducible rfl; done)); try simp only [Act.put, List.setIfInBounds_toArray, List.set_cons_zero, List.set_cons_succ])
  (refine lat_late 33 (by rfl) (.bool (decide (n1 + n2 = 0))) (by kernel_rfl) (fun _ _ _ h => h) (fun wq hSw => ⟨_, _, ?_, upEmpty_any wq A1 n1 c1 l1 o A n c zs h m b A2 n2 c2 l2 (by omega) (by omega)⟩) ?_; focus (go_simp; try with_reducible rfl; done); try simp only [Act.put, List.setIfInBounds_toArray, List.set_cons_zero, List.set_cons_succ])
  (refine lat_now 42 (by rfl) ?_ (by kernel_rfl) (fun _ _ _ h => h) ?_ ?_; rotate_left; (focus (intro wq hSw; have hrd : ∀ b o, b < w6.heap.size → wq.cell? ⟨b, o, none⟩ = w6.cell? ⟨b, o, none⟩ := (fun b o h => Below.cell hSw (p := ⟨b, o, none⟩) h); go_simp; try with_reducible rfl; done)); try simp only [Act.put, List.setIfInBounds_toArray, List.set_cons_zero, List.set_cons_succ])
  (refine lat_now 43 (by rfl) ?_ (by kernel_rfl) (fun _ _ _ h => h) ?_ ?_; rotate_left; (focus (intro wq hSw; have hrd : ∀ b o, b < w6.heap.size → wq.cell? ⟨b, o, none⟩ = w6.cell? ⟨b, o, none⟩ := (fun b o h => Below.cell hSw (p := ⟨b, o, none⟩) h); go_simp; try with_reducible rfl; done)); try simp only [Act.put, List.setIfInBounds_toArray, List.set_cons_zero, List.set_cons_succ])
  (refine lat_now 44 (by rfl) ?_ (by kernel_rfl) (fun _ _ _ h => h) ?_ ?_; rotate_left; (focus (intro wq hSw; have hrd : ∀ b o, b < w6.heap.size → wq.cell? ⟨b, o, none⟩ = w6.cell? ⟨b, o, none⟩ := (fun b o h => Below.cell hSw (p := ⟨b, o, none⟩) h); go_simp; try with_reducible rfl; done)); try simp only [Act.put, List.setIfInBounds_toArray, List.set_cons_zero, List.set_cons_succ])
  (refine lat_late 45 (by rfl) (.bool true) (by kernel_rfl) (fun _ _ _ h => h) (fun wq hSw => ⟨_, _, ?_, lives9_any wq⟩) ?_; focus (go_simp; try with_reducible rfl; done); try simp only [Act.put, List.setIfInBounds_toArray, List.set_cons_zero, List.set_cons_succ])
  (refine lat_now 46 (by rfl) ?_ (by kernel_rfl) (fun _ _ _ h => h) ?_ ?_; rotate_left; (focus (intro wq hSw; have hrd : ∀ b o, b < w6.heap.size → wq.cell? ⟨b, o, none⟩ = w6.cell? ⟨b, o, none⟩ := (fun b o h => Below.cell hSw (p := ⟨b, o, none⟩) h); go_simp; try with_reducible rfl; done)); try simp only [Act.put, List.setIfInBounds_toArray, List.set_cons_zero, List.set_cons_succ])
  (refine lat_now 47 (by rfl) ?_ (by kernel_rfl) (fun _ _ _ h => h) ?_ ?_; rotate_left; (focus (intro wq hSw; have hrd : ∀ b o, b < w6.heap.size → wq.cell? ⟨b, o, none⟩ = w6.cell? ⟨b, o, none⟩ := (fun b o h => Below.cell hSw (p := ⟨b, o, none⟩) h); go_simp; try with_reducible rfl; done)); try simp only [Act.put, List.setIfInBounds_toArray, List.set_cons_zero, List.set_cons_succ])
  refine lat_done (by kernel_rfl) (fun wz hz => ?_) _
  try refine NoPanic.normal ?_
  go_wp2_with fail
  go_ret
  exact ⟨rfl, hB.trans (hz.mono hB.size)⟩
end Go.Proofs.Ytfnclmacodchfaa

/- update: UpdateBack, the walk. -/
namespace Go.Proofs.Ytfnclmacodchfaa
set_option linter.unusedVariables false
open Go Go.RowKit

theorem sameU_refl (l1 l2 : List (Int × Int)) (o : Int) (zs : List Int) (h m : Int) (b : Bool) : sameU l1 l2 o zs h m b l1 l2 o zs h m b = true := by
  unfold sameU sameA intsEq; simp
theorem ParseUP.yes {w w' : World} {e : Ending} {l1 l2 : List (Int × Int)} {a : AttV} (hp : ParseUP w w' e (.ok (l1, a, l2))) (h0 : 0 ≤ a.h) (h1 : a.h ≤ 4294967295) :
    ∃ A1 c1 A c A2 c2, e = .returned (.tuple #[.agg #[.slice A1 l1.length c1, .int .i64 a.o, .slice A a.zs.length c, .int .u32 a.h, .int .i64 a.m, .bool a.b, .slice A2 l2.length c2], .agg #[.int .i64 0, .int .i64 0, .slice none 0 0]]) ∧ UpR w' A1 l1.length l1 A a.zs.length a.zs a.h A2 l2.length l2 := by
  obtain ⟨A1, c1, A, n, c, A2, c2, rfl, s1, s2, s3⟩ := hp
  have hn : a.zs.length = n := s2.1
  subst hn
  exact ⟨A1, c1, A, c, A2, c2, rfl, s1, s3, s2.nums, h0, h1⟩
theorem ParseUP.no {w w' : World} {e : Ending} {s : Int} {d : List UInt8} (hp : ParseUP w w' e (.error (s, d))) :
    ∃ A c, e = .returned (.tuple #[.agg #[.slice none 0 0, .int .i64 0, .slice none 0 0, .int .u32 0, .int .i64 0, .bool false, .slice none 0 0], .agg #[.int .i64 3, .int .i64 s, .slice A d.length c]]) ∧ Byt w' w'.heap.size A d.length d := by
  obtain ⟨v, rfl, own⟩ := hp
  obtain ⟨A, c, rfl, _, _, by1, _⟩ := own.any2
  exact ⟨A, c, rfl, by1⟩
set_option maxRecDepth 100000 in
set_option maxHeartbeats 16000000 in
theorem back9_walk (A1 : Option Addr) (n1 c1 : Nat) (l1 : List (Int × Int)) (o : Int) (A : Option Addr) (n c : Nat) (zs : List Int) (h m : Int) (b : Bool) (A2 : Option Addr) (n2 c2 : Nat) (l2 : List (Int × Int)) (k : Int) (w : World) (_ : n1 ≤ c1) (_ : c1 ≤ maxLen) (hs1 : Seen pfK w (fun b => b < w.heap.size) A1 n1 l1) (_ : (Lit.int .i64 o).wf = true) (_ : n ≤ c) (_ : c ≤ maxLen) (hN : Nums .i64 w w.heap.size A n zs) (hh : (Lit.int .u32 h).wf = true) (_ : (Lit.int .i64 m).wf = true) (_ : n2 ≤ c2) (_ : c2 ≤ maxLen) (hs2 : Seen pfK w (fun b => b < w.heap.size) A2 n2 l2) (hk : (Lit.int .u64 k).wf = true) :
    Calls Try.prog 6 #[.agg #[.slice A1 n1 c1, .int .i64 o, .slice A n c, .int .u32 h, .int .i64 m, .bool b, .slice A2 n2 c2], .int .u64 k] w fun e w' => e = .returned (.bool true) ∧ Below w.heap.size w w' := by
  have u : UpR w A1 n1 l1 A n zs h A2 n2 l2 := ⟨hs1, hs2, hN, (bounds_u32 hh).1, by have := (bounds_u32 hh).2; omega⟩
  have hbp1 : ∀ p ∈ l1, 0 ≤ p.1 ∧ p.1 ≤ 4294967295 := fun p hp => hs1.2.1 p hp
  have hbp2 : ∀ p ∈ l2, 0 ≤ p.1 ∧ p.1 ≤ 4294967295 := fun p hp => hs2.2.1 p hp
  have hk0 : 0 ≤ k := (bounds_u64 hk).1
  clear hs1 hs2 hN
  have hl1 := Lib.hid u.s1.1
  have hl2 := Lib.hid u.s2.1
  have hlz := Lib.hid u.pa.1
  have hB := (Below.refl w.heap.size w).alloc (Nat.le_refl _) (.cells #[.slice A1 n1 c1, .int .i64 o, .slice A n c, .int .u32 h, .int .i64 m, .bool b, .slice A2 n2 c2] 28)
  have hq := Blk.new w 28 #[.slice A1 n1 c1, .int .i64 o, .slice A n c, .int .u32 h, .int .i64 m, .bool b, .slice A2 n2 c2]
  replace u := u.nx hB
  go_enter Try.func6, Try.ntmps6
  go_wp2_with fail
  refine (light9_any _ A1 n1 c1 o A n c h m b A2 n2 c2).mono ?_
  rintro e w1 ⟨rfl, hb⟩
  replace hq := hq.below hb hq.lt
  replace hB := hB.trans (hb.mono hB.size)
  replace u := u.nx hb
  clear hb
  cases hx : lightU n1 n2 n
  · replace hx := Lib.hid hx
    go_wp2_with fail
    refine (lives9_any _).mono ?_
    rintro e w9 ⟨rfl, hb9⟩
    go_wp2_with fail
    go_ret
    exact ⟨rfl, hB.trans (hb9.mono hB.size)⟩
  have hn : n1 ≤ 2000 ∧ n2 ≤ 2000 ∧ n ≤ 300 := by unfold lightU at hx; exact of_decide_eq_true hx
  clear hx
  have q0 : w1.cell? ⟨w.heap.size, 0, none⟩ = some (.slice A1 n1 c1) := hq.cellv 0 rfl
  have q1 : w1.cell? ⟨w.heap.size, 1, none⟩ = some (.int .i64 o) := hq.cellv 1 rfl
  have q2 : w1.cell? ⟨w.heap.size, 2, none⟩ = some (.slice A n c) := hq.cellv 2 rfl
  have q3 : w1.cell? ⟨w.heap.size, 3, none⟩ = some (.int .u32 h) := hq.cellv 3 rfl
  have q4 : w1.cell? ⟨w.heap.size, 4, none⟩ = some (.int .i64 m) := hq.cellv 4 rfl
  have q5 : w1.cell? ⟨w.heap.size, 5, none⟩ = some (.bool b) := hq.cellv 5 rfl
  have q6 : w1.cell? ⟨w.heap.size, 6, none⟩ = some (.slice A2 n2 c2) := hq.cellv 6 rfl
  have ql := hq.lt
  have hp1 := pfAll_len l1
  have hp2 := pfAll_len l2
  rw [hl1.out] at hp1
  rw [hl2.out] at hp2
  have hal := attU_le l2 o zs h m b
  have hbl : (bodyB l1 l2 o zs h m b).length = 2 + (pfAll l1).length + (2 + (attU l2 o zs h m b).length) + (pfAll l2).length := by unfold bodyB; rw [List.length_append, List.length_append, cntB_len, cntB_len]
  go_wp2_with fail
  refine (upBytes_any w1 A1 n1 c1 l1 o A n c zs h m b A2 n2 c2 l2 u (by omega) (by omega) (by omega)).mono ?_
  rintro e w2 ⟨v, rfl, own, hb⟩
  clear q0 q1 q2 q3 q4 q5 q6 ql
  replace hq := hq.below hb hq.lt
  replace hB := hB.trans (hb.mono hB.size)
  replace u := u.nx hb
  have q0 : w2.cell? ⟨w.heap.size, 0, none⟩ = some (.slice A1 n1 c1) := hq.cellv 0 rfl
  have q1 : w2.cell? ⟨w.heap.size, 1, none⟩ = some (.int .i64 o) := hq.cellv 1 rfl
  have q2 : w2.cell? ⟨w.heap.size, 2, none⟩ = some (.slice A n c) := hq.cellv 2 rfl
  have q3 : w2.cell? ⟨w.heap.size, 3, none⟩ = some (.int .u32 h) := hq.cellv 3 rfl
  have q4 : w2.cell? ⟨w.heap.size, 4, none⟩ = some (.int .i64 m) := hq.cellv 4 rfl
  have q5 : w2.cell? ⟨w.heap.size, 5, none⟩ = some (.bool b) := hq.cellv 5 rfl
  have q6 : w2.cell? ⟨w.heap.size, 6, none⟩ = some (.slice A2 n2 c2) := hq.cellv 6 rfl
  have ql := hq.lt
  clear hb
  by_cases hgk : goodU l1 l2 o zs h m b = true ∧ (bodyB l1 l2 o zs h m b).length ≤ 4077
  rotate_left
  · have eL : upB l1 l2 o zs h m b = [] := by unfold upB; rw [if_neg hgk]
    rw [eL] at own
    obtain ⟨A5, c5, rfl, _, _, by5, _⟩ := own.any2
    replace eL := Lib.hid eL
    cases hg : goodU l1 l2 o zs h m b with
    | false =>
      have hgd := upGood_any w2 A1 n1 c1 l1 o A n c zs h m b A2 n2 c2 l2 u (by omega) (by omega) (by omega)
      rw [hg] at hgd
      replace hg := Lib.hid hg
      replace hgk := Lib.hid hgk
      go_wp2_with fail
      refine hgd.mono ?_
      rintro e w3 ⟨rfl, hb⟩
      replace hq := hq.below hb hq.lt
      replace hB := hB.trans (hb.mono hB.size)
      replace u := u.nx hb
      go_wp2_with fail
      refine (lives9_any _).mono ?_
      rintro e w9 ⟨rfl, hb9⟩
      go_wp2_with fail
      go_ret
      exact ⟨rfl, hB.trans (hb9.mono hB.size)⟩
    | true =>
      have hbig : ¬ (bodyB l1 l2 o zs h m b).length ≤ 4077 := fun q => hgk ⟨hg, q⟩
      have es : upSize l1 l2 o zs h m b = (bodyB l1 l2 o zs h m b).length := by unfold upSize; rw [if_pos hg]
      have hbi : (4077 : Int) < (bodyB l1 l2 o zs h m b).length := by omega
      have hgd := upGood_any w2 A1 n1 c1 l1 o A n c zs h m b A2 n2 c2 l2 u (by omega) (by omega) (by omega)
      rw [hg] at hgd
      replace hg := Lib.hid hg
      replace hgk := Lib.hid hgk
      replace hbig := Lib.hid hbig
      replace hbl := Lib.hid hbl
      go_wp2_with fail
      refine hgd.mono ?_
      rintro e w3 ⟨rfl, hb⟩
      clear q0 q1 q2 q3 q4 q5 q6 ql
      replace hq := hq.below hb hq.lt
      replace hB := hB.trans (hb.mono hB.size)
      replace u := u.nx hb
      have q0 : w3.cell? ⟨w.heap.size, 0, none⟩ = some (.slice A1 n1 c1) := hq.cellv 0 rfl
      have q1 : w3.cell? ⟨w.heap.size, 1, none⟩ = some (.int .i64 o) := hq.cellv 1 rfl
      have q2 : w3.cell? ⟨w.heap.size, 2, none⟩ = some (.slice A n c) := hq.cellv 2 rfl
      have q3 : w3.cell? ⟨w.heap.size, 3, none⟩ = some (.int .u32 h) := hq.cellv 3 rfl
      have q4 : w3.cell? ⟨w.heap.size, 4, none⟩ = some (.int .i64 m) := hq.cellv 4 rfl
      have q5 : w3.cell? ⟨w.heap.size, 5, none⟩ = some (.bool b) := hq.cellv 5 rfl
      have q6 : w3.cell? ⟨w.heap.size, 6, none⟩ = some (.slice A2 n2 c2) := hq.cellv 6 rfl
      have ql := hq.lt
      clear hb
      have hsz := upSize_any w3 A1 n1 c1 l1 o A n c zs h m b A2 n2 c2 l2 u (by omega) (by omega) (by omega)
      rw [es] at hsz
      replace es := Lib.hid es
      go_wp2_with fail
      refine hsz.mono ?_
      rintro e w4 ⟨rfl, hb⟩
      replace hq := hq.below hb hq.lt
      replace hB := hB.trans (hb.mono hB.size)
      replace u := u.nx hb
      go_wp2_with fail
      refine (lives9_any _).mono ?_
      rintro e w9 ⟨rfl, hb9⟩
      go_wp2_with fail
      go_ret
      exact ⟨rfl, hB.trans (hb9.mono hB.size)⟩
  obtain ⟨hg, hle⟩ := hgk
  have eL : upB l1 l2 o zs h m b = (bodyB l1 l2 o zs h m b) := by unfold upB; rw [if_pos ⟨hg, hle⟩]
  have es : upSize l1 l2 o zs h m b = (bodyB l1 l2 o zs h m b).length := by unfold upSize; rw [if_pos hg]
  rw [eL] at own
  obtain ⟨A5, c5, rfl, hc5, _, by5, _⟩ := own.any2
  replace eL := Lib.hid eL
  have hpb := parse_body hg hbp1 hbp2 u.h0 u.h1 (by omega)
  have h4 : 4 ≤ (bodyB l1 l2 o zs h m b).length := by omega
  have hne : (((bodyB l1 l2 o zs h m b).length : Int) == 0) = false := by rw [beq_eq_false_iff_ne]; omega
  have hcut : ∀ j : Nat, j < (bodyB l1 l2 o zs h m b).length - (pfAll l2).length → parseU ((bodyB l1 l2 o zs h m b).take j) = .error (1, []) := fun j hj => by
    have e9 : (bodyB l1 l2 o zs h m b) = cntB (pfAll l1) ++ (cntB (attU l2 o zs h m b) ++ pfAll l2) := by unfold bodyB; rw [List.append_assoc]
    rw [e9]
    exact up_cut _ _ _ j (by omega) (by omega) (by omega)
  have hk4 : 4 + (pfAll l2).length ≤ (bodyB l1 l2 o zs h m b).length := by omega
  replace hbl := Lib.hid hbl
  replace hcut := Lib.hid hcut
  go_wp2_with fail
  refine (upParse_any w2 A5 _ c5 (bodyB l1 l2 o zs h m b) by5 (by omega)).mono ?_
  rintro e w3 ⟨hb, hP⟩
  rw [hpb] at hP
  replace hpb := Lib.hid hpb
  obtain ⟨X1, y1, X, y, X2, y2, rfl, ux⟩ := hP.yes u.h0 u.h1
  clear hP
  clear q0 q1 q2 q3 q4 q5 q6 ql
  replace hq := hq.below hb hq.lt
  replace hB := hB.trans (hb.mono hB.size)
  replace u := u.nx hb
  replace by5 := by5.nx hb
  clear hb
  replace ux : UpR w3 X1 l1.length l1 X zs.length zs h X2 l2.length l2 := ux
  have hb := ((Below.refl w3.heap.size w3).alloc (Nat.le_refl _) (.cells #[.slice X1 l1.length y1, .int .i64 o, .slice X zs.length y, .int .u32 h, .int .i64 m, .bool b, .slice X2 l2.length y2] 28)).alloc (by simp) (.cells #[.int .i64 0, .int .i64 0, .slice none 0 0] 44)
  have hx := (Blk.new w3 28 #[.slice X1 l1.length y1, .int .i64 o, .slice X zs.length y, .int .u32 h, .int .i64 m, .bool b, .slice X2 l2.length y2]).alloc (.cells #[.int .i64 0, .int .i64 0, .slice none 0 0] 44)
  have hf : Blk ((w3.alloc (.cells #[.slice X1 l1.length y1, .int .i64 o, .slice X zs.length y, .int .u32 h, .int .i64 m, .bool b, .slice X2 l2.length y2] 28)).alloc (.cells #[.int .i64 0, .int .i64 0, .slice none 0 0] 44)) (w3.heap.size + 1) 44 #[.int .i64 0, .int .i64 0, .slice none 0 0] := by
    have := Blk.new (w3.alloc (.cells #[.slice X1 l1.length y1, .int .i64 o, .slice X zs.length y, .int .u32 h, .int .i64 m, .bool b, .slice X2 l2.length y2] 28)) 44 #[.int .i64 0, .int .i64 0, .slice none 0 0]
    simpa using this
  replace hq := hq.below hb hq.lt
  replace hB := hB.trans (hb.mono hB.size)
  replace u := u.nx hb
  replace by5 := by5.nx hb
  replace ux := ux.nx hb
  go_upto_region 7 with (fail)
  generalize (w3.alloc (.cells #[.slice X1 l1.length y1, .int .i64 o, .slice X zs.length y, .int .u32 h, .int .i64 m, .bool b, .slice X2 l2.length y2] 28)).alloc (.cells #[.int .i64 0, .int .i64 0, .slice none 0 0] 44) = w4 at *
  clear hb
  have q6 : w4.cell? ⟨w.heap.size, 6, none⟩ = some (.slice A2 n2 c2) := hq.cellv 6 rfl
  have ql := hq.lt
  go_wp2_with fail
  refine (refAll3_any w4 A2 n2 c2 l2 u.s2 (by omega)).mono ?_
  rintro e w5 ⟨v6, rfl, own6, hb⟩
  obtain ⟨A6, c6, rfl, _, _, _, _⟩ := own6.any2
  clear q6 ql own6
  replace hq := hq.below hb hq.lt
  replace hB := hB.trans (hb.mono hB.size)
  replace u := u.nx hb
  replace by5 := by5.nx hb
  replace ux := ux.nx hb
  replace hx := hx.below hb hx.lt
  replace hf := hf.below hb hf.lt
  clear hb
  have kk : IntKind.i64.wrap (((bodyB l1 l2 o zs h m b).length : Int) - ((pfAll l2).length : Int)) = (((bodyB l1 l2 o zs h m b).length - (pfAll l2).length : Nat) : Int) := by rw [IntWalk.i64_in _ (by omega)]; omega
  have kk2 : wrap64 (((bodyB l1 l2 o zs h m b).length : Int) - ((pfAll l2).length : Int)) = (((bodyB l1 l2 o zs h m b).length - (pfAll l2).length : Nat) : Int) := by unfold wrap64; omega
  have f0 : w5.cell? ⟨w3.heap.size + 1, 0, none⟩ = some (.int .i64 0) := hf.cellv 0 rfl
  have fl := hf.lt
  have x0 : w5.cell? ⟨w3.heap.size, 0, none⟩ = some (.slice X1 l1.length y1) := hx.cellv 0 rfl
  have x1 : w5.cell? ⟨w3.heap.size, 1, none⟩ = some (.int .i64 o) := hx.cellv 1 rfl
  have x2 : w5.cell? ⟨w3.heap.size, 2, none⟩ = some (.slice X zs.length y) := hx.cellv 2 rfl
  have x3 : w5.cell? ⟨w3.heap.size, 3, none⟩ = some (.int .u32 h) := hx.cellv 3 rfl
  have x4 : w5.cell? ⟨w3.heap.size, 4, none⟩ = some (.int .i64 m) := hx.cellv 4 rfl
  have x5 : w5.cell? ⟨w3.heap.size, 5, none⟩ = some (.bool b) := hx.cellv 5 rfl
  have x6 : w5.cell? ⟨w3.heap.size, 6, none⟩ = some (.slice X2 l2.length y2) := hx.cellv 6 rfl
  have q0 : w5.cell? ⟨w.heap.size, 0, none⟩ = some (.slice A1 n1 c1) := hq.cellv 0 rfl
  have q1 : w5.cell? ⟨w.heap.size, 1, none⟩ = some (.int .i64 o) := hq.cellv 1 rfl
  have q2 : w5.cell? ⟨w.heap.size, 2, none⟩ = some (.slice A n c) := hq.cellv 2 rfl
  have q3 : w5.cell? ⟨w.heap.size, 3, none⟩ = some (.int .u32 h) := hq.cellv 3 rfl
  have q4 : w5.cell? ⟨w.heap.size, 4, none⟩ = some (.int .i64 m) := hq.cellv 4 rfl
  have q5 : w5.cell? ⟨w.heap.size, 5, none⟩ = some (.bool b) := hq.cellv 5 rfl
  have q6 : w5.cell? ⟨w.heap.size, 6, none⟩ = some (.slice A2 n2 c2) := hq.cellv 6 rfl
  have ql := hq.lt
  obtain ⟨K, hK⟩ : ∃ K : Nat, K = (bodyB l1 l2 o zs h m b).length - (pfAll l2).length := ⟨_, rfl⟩
  rw [← hK] at kk kk2
  have hK4 : 4 ≤ K := by omega
  have hKb : K ≤ (bodyB l1 l2 o zs h m b).length := by omega
  replace hK := Lib.hid hK
  go_wp2_with fail
  refine (upSame_any w5 X1 _ y1 l1 o X _ y zs h m b X2 _ y2 l2 A1 n1 c1 l1 o A n c zs h m b A2 n2 c2 l2 ux u (by have := hl1.out; omega) (by have := hl2.out; omega) (by have := hlz.out; omega)).mono ?_
  rintro e w6 ⟨rfl, hb⟩
  rw [sameU_refl]
  clear q0 q1 q2 q3 q4 q5 q6 ql x0 x1 x2 x3 x4 x5 x6 f0 fl
  replace hq := hq.below hb hq.lt
  replace hB := hB.trans (hb.mono hB.size)
  replace u := u.nx hb
  replace by5 := by5.nx hb
  have q0 : w6.cell? ⟨w.heap.size, 0, none⟩ = some (.slice A1 n1 c1) := hq.cellv 0 rfl
  have q1 : w6.cell? ⟨w.heap.size, 1, none⟩ = some (.int .i64 o) := hq.cellv 1 rfl
  have q2 : w6.cell? ⟨w.heap.size, 2, none⟩ = some (.slice A n c) := hq.cellv 2 rfl
  have q3 : w6.cell? ⟨w.heap.size, 3, none⟩ = some (.int .u32 h) := hq.cellv 3 rfl
  have q4 : w6.cell? ⟨w.heap.size, 4, none⟩ = some (.int .i64 m) := hq.cellv 4 rfl
  have q5 : w6.cell? ⟨w.heap.size, 5, none⟩ = some (.bool b) := hq.cellv 5 rfl
  have q6 : w6.cell? ⟨w.heap.size, 6, none⟩ = some (.slice A2 n2 c2) := hq.cellv 6 rfl
  have ql := hq.lt
  clear hb
  have hsz := upSize_any w6 A1 n1 c1 l1 o A n c zs h m b A2 n2 c2 l2 u (by omega) (by omega) (by omega)
  rw [es] at hsz
  replace es := Lib.hid es
  go_wp2_with fail
  refine hsz.mono ?_
  rintro e w7 ⟨rfl, hb⟩
  clear q0 q1 q2 q3 q4 q5 q6 ql
  replace hq := hq.below hb hq.lt
  replace hB := hB.trans (hb.mono hB.size)
  replace u := u.nx hb
  replace by5 := by5.nx hb
  clear hb
  have hk5 : ¬ ((K : Int) < 4) := by omega
  have ku : IntKind.u64.wrap (K : Int) = K := by rw [IntKind.wrap_u64]; omega
  have km : k.tmod (K : Int) = (((k % (K : Int)).toNat : Nat) : Int) := by
    rw [Int.tmod_eq_emod_of_nonneg hk0]
    have := Int.emod_nonneg k (show (K : Int) ≠ 0 by omega)
    omega
  have hjK : (k % (K : Int)).toNat < K := by
    have := Int.emod_nonneg k (show (K : Int) ≠ 0 by omega)
    have := Int.emod_lt_of_pos k (show (0 : Int) < K by omega)
    omega
  obtain ⟨j, hj⟩ : ∃ j, j = (k % (K : Int)).toNat := ⟨_, rfl⟩
  rw [← hj] at km hjK
  replace hj := Lib.hid hj
  have kw : IntKind.i64.wrap (j : Int) = j := IntWalk.i64_in _ (by omega)
  obtain ⟨A7, hsl, hby7⟩ := slice_take A5 (bodyB l1 l2 o zs h m b).length c5 j (by omega) hc5
  have by7 := hby7 _ _ _ by5
  clear by5 hby7
  go_wp2_with fail
  refine (upParse_any w7 A7 j c5 ((bodyB l1 l2 o zs h m b).take j) by7 (by omega)).mono ?_
  rintro e w8 ⟨hb, hP⟩
  rw [hcut.out j (by rw [← hK.out]; exact hjK)] at hP
  obtain ⟨Af, cf, rfl, _⟩ := hP.no
  clear hP
  replace hq := hq.below hb hq.lt
  replace hB := hB.trans (hb.mono hB.size)
  replace u := u.nx hb
  clear hb by7
  have hb := ((Below.refl w8.heap.size w8).alloc (Nat.le_refl _) (.cells #[.slice none 0 0, .int .i64 0, .slice none 0 0, .int .u32 0, .int .i64 0, .bool false, .slice none 0 0] 28)).alloc (by simp) (.cells #[.int .i64 3, .int .i64 1, .slice Af ([] : List UInt8).length cf] 44)
  have hf : Blk ((w8.alloc (.cells #[.slice none 0 0, .int .i64 0, .slice none 0 0, .int .u32 0, .int .i64 0, .bool false, .slice none 0 0] 28)).alloc (.cells #[.int .i64 3, .int .i64 1, .slice Af ([] : List UInt8).length cf] 44)) (w8.heap.size + 1) 44 #[.int .i64 3, .int .i64 1, .slice Af ([] : List UInt8).length cf] := by
    have := Blk.new (w8.alloc (.cells #[.slice none 0 0, .int .i64 0, .slice none 0 0, .int .u32 0, .int .i64 0, .bool false, .slice none 0 0] 28)) 44 #[.int .i64 3, .int .i64 1, .slice Af ([] : List UInt8).length cf]
    simpa using this
  replace hq := hq.below hb hq.lt
  replace hB := hB.trans (hb.mono hB.size)
  replace u := u.nx hb
  go_upto_region 11 with (fail)
  generalize (w8.alloc (.cells #[.slice none 0 0, .int .i64 0, .slice none 0 0, .int .u32 0, .int .i64 0, .bool false, .slice none 0 0] 28)).alloc (.cells #[.int .i64 3, .int .i64 1, .slice Af ([] : List UInt8).length cf] 44) = w9 at *
  clear hb
  have f0 : w9.cell? ⟨w8.heap.size + 1, 0, none⟩ = some (.int .i64 3) := hf.cellv 0 rfl
  have f1 : w9.cell? ⟨w8.heap.size + 1, 1, none⟩ = some (.int .i64 1) := hf.cellv 1 rfl
  have fl := hf.lt
  go_wp2_with fail
  refine (lives9_any _).mono ?_
  rintro e w9 ⟨rfl, hb9⟩
  go_wp2_with fail
  go_ret
  exact ⟨rfl, hB.trans (hb9.mono hB.size)⟩

end Go.Proofs.Ytfnclmacodchfaa

/- update: UpdateMissing, the walk. -/
namespace Go.Proofs.Ytfnclmacodchfaa
set_option linter.unusedVariables false
open Go Go.RowKit

section
variable {H : Type} {enc : TypeId × Value → H} {P : Program} {W : World} {base : Nat} {spare : Nat → Bool} {held : Bool} {r : Reach} {b0 : Nat}
open Go.ChangeShapes Go.WideShapes Go.ChangeAt
/-- prefixes, a law's argument. -/
theorem open_pfs {t e : TypeId} {fs : Array Field} {v : Value} {d : DataW H} {p : List MemPlace} {f0 f1 : Field} (ht : P.underlying t = some (.slice e)) (hs : P.underlying e = some (.struct fs)) (hone : Go.Deep.oneCellFields P fs = true) (hC : P.cellsOf e = fs.size) (hz : fs.size = 2)
    (g0 : fs[0]? = some f0) (g1 : fs[1]? = some f1) (u0 : P.underlying f0.type = some (.int .u32)) (u1 : P.underlying f1.type = some (.int .i64))
    (hv : Value.okWide P W r b0 t v) (h : DataW.Trod enc P W base spare held t v d p) :
    ∃ A len cap cs, v = .slice A len cap ∧ len ≤ cap ∧ cap ≤ maxLen ∧ Seen pfK W (fun b => b < W.heap.size) A len cs := by
  obtain ⟨A, len, cap, vs, rfl, h1, h2, h3, h4⟩ := open_rows ht hs hone hC (by omega) hv h
  rw [hz] at h3
  obtain ⟨rs, hrs⟩ := seen_of_flat (R := pfK) h3 fun i hi => by
    obtain ⟨n0, y0, t0⟩ := h4 i hi 0 f0 g0
    obtain ⟨n1, y1, t1⟩ := h4 i hi 1 f1 g1
    obtain ⟨z0, e0, k0⟩ := field_int u0 t0
    obtain ⟨z1, e1, _⟩ := field_int u1 t1
    rw [hz] at e0 e1
    refine ⟨(z0, z1), fun j hj => ?_, (bounds_u32 k0).1, by have := (bounds_u32 k0).2; omega⟩
    show [Value.int .u32 z0, .int .i64 z1][j]? = some (vs (i * 2 + j))
    match j, hj with
    | 0, _ => rw [e0]; rfl
    | 1, _ => rw [e1]; rfl
  exact ⟨A, len, cap, rs, rfl, h1, h2, hrs⟩
end
theorem ParseUP.zero {w w' : World} {e : Ending} (hp : ParseUP w w' e (.ok ([], att0, []))) :
    ∃ X1 y1 X y X2 y2, e = .returned (.tuple #[.agg #[.slice X1 0 y1, .int .i64 0, .slice X 0 y, .int .u32 0, .int .i64 0, .bool false, .slice X2 0 y2], .agg #[.int .i64 0, .int .i64 0, .slice none 0 0]]) ∧ UpR w' X1 0 [] X 0 [] 0 X2 0 [] := by
  obtain ⟨X1, y1, X, y, X2, y2, h1, h2⟩ := hp.yes (by decide) (by decide)
  exact ⟨X1, y1, X, y, X2, y2, h1, h2⟩
set_option maxRecDepth 100000 in
set_option maxHeartbeats 16000000 in
theorem missing9_walk (A1 : Option Addr) (n1 c1 : Nat) (l : List (Int × Int)) (o : Int) (A : Option Addr) (n c : Nat) (zs : List Int) (h m : Int) (b : Bool) (w : World) (_ : n1 ≤ c1) (_ : c1 ≤ maxLen) (hs : Seen pfK w (fun b => b < w.heap.size) A1 n1 l) (_ : (Lit.int .i64 o).wf = true) (_ : n ≤ c) (_ : c ≤ maxLen) (hN : Nums .i64 w w.heap.size A n zs) (hh : (Lit.int .u32 h).wf = true) (_ : (Lit.int .i64 m).wf = true) :
    Calls Try.prog 5 #[.slice A1 n1 c1, .agg #[.int .i64 o, .slice A n c, .int .u32 h, .int .i64 m, .bool b]] w fun e w' => e = .returned (.bool true) ∧ Below w.heap.size w w' := by
  have h0 : 0 ≤ h := (bounds_u32 hh).1
  have h1 : h ≤ 4294967295 := by have := (bounds_u32 hh).2; omega
  have hbp : ∀ p ∈ l, 0 ≤ p.1 ∧ p.1 ≤ 4294967295 := fun p hp => hs.2.1 p hp
  have hl := Lib.hid hs.1
  have hB := (Below.refl w.heap.size w).alloc (Nat.le_refl _) (.cells #[.int .i64 o, .slice A n c, .int .u32 h, .int .i64 m, .bool b] 26)
  have hq := Blk.new w 26 #[.int .i64 o, .slice A n c, .int .u32 h, .int .i64 m, .bool b]
  replace hs := hs.nxP hB
  replace hN := hN.nx hB
  go_enter Try.func5, Try.ntmps5
  go_upto_region 1 with (fail)
  generalize w.alloc (.cells #[.int .i64 o, .slice A n c, .int .u32 h, .int .i64 m, .bool b] 26) = w1 at *
  have q0 : w1.cell? ⟨w.heap.size, 0, none⟩ = some (.int .i64 o) := hq.cellv 0 rfl
  have q1 : w1.cell? ⟨w.heap.size, 1, none⟩ = some (.slice A n c) := hq.cellv 1 rfl
  have q2 : w1.cell? ⟨w.heap.size, 2, none⟩ = some (.int .u32 h) := hq.cellv 2 rfl
  have q3 : w1.cell? ⟨w.heap.size, 3, none⟩ = some (.int .i64 m) := hq.cellv 3 rfl
  have q4 : w1.cell? ⟨w.heap.size, 4, none⟩ = some (.bool b) := hq.cellv 4 rfl
  have ql := hq.lt
  by_cases k500n1 : 500 < n1
  · have g500n1 : (500 : Int) < n1 := by omega
    replace k500n1 := Lib.hid k500n1
    go_wp2_with fail
    refine (lives9_any _).mono ?_
    rintro e w9 ⟨rfl, hb9⟩
    go_wp2_with fail
    go_ret
    exact ⟨rfl, hB.trans (hb9.mono hB.size)⟩
  have g500n1 : ¬ ((500 : Int) < n1) := by omega
  by_cases kn10 : n1 = 0
  · have gn10 : ((n1 : Int) == 0) = true := by rw [beq_iff_eq]; omega
    replace kn10 := Lib.hid kn10
    go_wp2_with fail
    refine (lives9_any _).mono ?_
    rintro e w9 ⟨rfl, hb9⟩
    go_wp2_with fail
    go_ret
    exact ⟨rfl, hB.trans (hb9.mono hB.size)⟩
  have gn10 : ((n1 : Int) == 0) = false := by rw [beq_eq_false_iff_ne]; omega
  by_cases k300n : 300 < n
  · have g300n : (300 : Int) < n := by omega
    replace k300n := Lib.hid k300n
    go_wp2_with fail
    refine (lives9_any _).mono ?_
    rintro e w9 ⟨rfl, hb9⟩
    go_wp2_with fail
    go_ret
    exact ⟨rfl, hB.trans (hb9.mono hB.size)⟩
  have g300n : ¬ ((300 : Int) < n) := by omega
  have hp1 := pfAll_len l
  rw [hl.out] at hp1
  have E1 := parse_no_att l hbp (by rw [hl.out]; omega)
  obtain ⟨L1, hL1⟩ : ∃ L1 : List UInt8, L1 = [0, 0, 0, 0] ++ pfAll l := ⟨_, rfl⟩
  rw [← hL1] at E1
  have hL1n : L1.length = 4 + (pfAll l).length := by rw [hL1]; simp; omega
  replace hL1 := Lib.hid hL1
  replace hL1n := Lib.hid hL1n
  replace E1 := Lib.hid E1
  have hlit := OwnB.lit (base := w1.heap.size) w1 [0, 0, 0, 0] (Nat.le_refl _) (by unfold maxLen; simp)
  rw [show byCells [0, 0, 0, 0] = #[.int .u8 0, .int .u8 0, .int .u8 0, .int .u8 0] from rfl] at hlit
  have hb := (Below.refl w1.heap.size w1).alloc (Nat.le_refl _) (.cells #[.int .u8 0, .int .u8 0, .int .u8 0, .int .u8 0] 5)
  have hs2 := hs.nxP hb
  have hN2 := hN.nx hb
  have hq2 := hq.below hb hq.lt
  have hB2 := hB.trans (hb.mono hB.size)
  have hzl : w1.heap.size ≤ (w1.alloc (.cells #[.int .u8 0, .int .u8 0, .int .u8 0, .int .u8 0] 5)).heap.size := hb.size
  go_wp2_with fail
  generalize w1.alloc (.cells #[.int .u8 0, .int .u8 0, .int .u8 0, .int .u8 0] 5) = w2 at *
  refine (refAll3_any w2 A1 n1 c1 l hs2 (by omega)).mono ?_
  rintro e w3 ⟨v3, rfl, own3, hb3⟩
  obtain ⟨A3, c3, rfl, _, _, by3, _⟩ := own3.any2
  have hlit3 := hlit.below hb3
  have hz3 := hb3.size
  go_wp2_with (at_builtin; refine wpList_app _ rfl (.tmp 28) (.tmp 30) rfl w1.heap.size _ _ _ rfl hlit3 _ _ _ _ _ rfl by3 (by simp; omega) (by omega) ?_; intro v4 w4 own4 hg4 hd4; clear hd4; have hb4 := hlit3.below_app hg4 (by omega); rw [← hL1.out] at own4; obtain ⟨A4, c4, rfl, _, _, by4, _⟩ := own4.any2; refine Hid.out ?_)
  refine Lib.hid ?_
  clear own4 hlit hlit3 own3 hg4 by3 q0 q1 q2 q3 q4 ql
  have hb14 : Below w1.heap.size w1 w4 := (hb.trans (hb3.mono hb.size)).trans hb4
  clear hb hb3 hb4 hN2 hq2 hB2 hs2
  replace hq := hq.below hb14 hq.lt
  replace hB := hB.trans (hb14.mono hB.size)
  replace hs := hs.nxP hb14
  replace hN := hN.nx hb14
  clear hb14
  go_wp2_with fail
  refine (upParse_any w4 A4 _ c4 L1 by4 (by simp; omega)).mono ?_
  rintro e w5 ⟨hb, hP⟩
  rw [E1.out] at hP
  obtain ⟨A5, c5, rfl, by5⟩ := hP.no
  clear hP by4
  replace hq := hq.below hb hq.lt
  replace hB := hB.trans (hb.mono hB.size)
  replace hs := hs.nxP hb
  replace hN := hN.nx hb
  clear hb
  have hb := ((Below.refl w5.heap.size w5).alloc (Nat.le_refl _) (.cells #[.slice none 0 0, .int .i64 0, .slice none 0 0, .int .u32 0, .int .i64 0, .bool false, .slice none 0 0] 28)).alloc (by simp) (.cells #[.int .i64 3, .int .i64 3, .slice A5 ([1] : List UInt8).length c5] 44)
  have hf : Blk ((w5.alloc (.cells #[.slice none 0 0, .int .i64 0, .slice none 0 0, .int .u32 0, .int .i64 0, .bool false, .slice none 0 0] 28)).alloc (.cells #[.int .i64 3, .int .i64 3, .slice A5 ([1] : List UInt8).length c5] 44)) (w5.heap.size + 1) 44 #[.int .i64 3, .int .i64 3, .slice A5 ([1] : List UInt8).length c5] := by
    have := Blk.new (w5.alloc (.cells #[.slice none 0 0, .int .i64 0, .slice none 0 0, .int .u32 0, .int .i64 0, .bool false, .slice none 0 0] 28)) 44 #[.int .i64 3, .int .i64 3, .slice A5 ([1] : List UInt8).length c5]
    simpa using this
  replace hq := hq.below hb hq.lt
  replace hB := hB.trans (hb.mono hB.size)
  replace hs := hs.nxP hb
  replace hN := hN.nx hb
  replace by5 := by5.nx hb
  go_upto_region 5 with (fail)
  generalize (w5.alloc (.cells #[.slice none 0 0, .int .i64 0, .slice none 0 0, .int .u32 0, .int .i64 0, .bool false, .slice none 0 0] 28)).alloc (.cells #[.int .i64 3, .int .i64 3, .slice A5 ([1] : List UInt8).length c5] 44) = w6 at *
  clear hb
  have f0 : w6.cell? ⟨w5.heap.size + 1, 0, none⟩ = some (.int .i64 3) := hf.cellv 0 rfl
  have f1 : w6.cell? ⟨w5.heap.size + 1, 1, none⟩ = some (.int .i64 3) := hf.cellv 1 rfl
  have f2 : w6.cell? ⟨w5.heap.size + 1, 2, none⟩ = some (.slice A5 ([1] : List UInt8).length c5) := hf.cellv 2 rfl
  have fl := hf.lt
  replace by5 : Byt w6 w6.heap.size A5 1 [1] := by5
  have hstr := run_str w6 by5 c5
  rw [show strB [1] = ⟨#[1]⟩ from rfl] at hstr
  have q0 : w6.cell? ⟨w.heap.size, 0, none⟩ = some (.int .i64 o) := hq.cellv 0 rfl
  have q1 : w6.cell? ⟨w.heap.size, 1, none⟩ = some (.slice A n c) := hq.cellv 1 rfl
  have q2 : w6.cell? ⟨w.heap.size, 2, none⟩ = some (.int .u32 h) := hq.cellv 2 rfl
  have q3 : w6.cell? ⟨w.heap.size, 3, none⟩ = some (.int .i64 m) := hq.cellv 3 rfl
  have q4 : w6.cell? ⟨w.heap.size, 4, none⟩ = some (.bool b) := hq.cellv 4 rfl
  have ql := hq.lt
  go_wp2_with fail
  refine (attrBytes_any w6 o A n c zs h m b hN h0 h1).mono ?_
  rintro e w7 ⟨v7, rfl, own7, hb⟩
  clear q0 q1 q2 q3 q4 ql f0 f1 f2 fl hstr by5 hf
  replace hq := hq.below hb hq.lt
  replace hB := hB.trans (hb.mono hB.size)
  replace hs := hs.nxP hb
  replace hN := hN.nx hb
  clear hb
  have q0 : w7.cell? ⟨w.heap.size, 0, none⟩ = some (.int .i64 o) := hq.cellv 0 rfl
  have q1 : w7.cell? ⟨w.heap.size, 1, none⟩ = some (.slice A n c) := hq.cellv 1 rfl
  have q2 : w7.cell? ⟨w.heap.size, 2, none⟩ = some (.int .u32 h) := hq.cellv 2 rfl
  have q3 : w7.cell? ⟨w.heap.size, 3, none⟩ = some (.int .i64 m) := hq.cellv 3 rfl
  have q4 : w7.cell? ⟨w.heap.size, 4, none⟩ = some (.bool b) := hq.cellv 4 rfl
  have ql := hq.lt
  have hgd := attrGood_any w7 o A n c zs h m b hN h0 h1
  cases hg : goodA o zs h m b with
  | false =>
    have ea : attrsB o zs h m b = [] := by unfold attrsB; rw [hg]; rfl
    rw [ea] at own7
    rw [hg] at hgd
    obtain ⟨A7, c7, rfl, _, _, _, _⟩ := own7.any2
    replace ea := Lib.hid ea
    replace hg := Lib.hid hg
    go_wp2_with fail
    refine hgd.mono ?_
    rintro e w8 ⟨rfl, hb⟩
    replace hq := hq.below hb hq.lt
    replace hB := hB.trans (hb.mono hB.size)
    replace hs := hs.nxP hb
    replace hN := hN.nx hb
    go_wp2_with fail
    refine (lives9_any _).mono ?_
    rintro e w9 ⟨rfl, hb9⟩
    go_wp2_with fail
    go_ret
    exact ⟨rfl, hB.trans (hb9.mono hB.size)⟩
  | true =>
    clear hgd
    have hxl := attrsB_len hg
    have E2 := parse_att (x := attrsB o zs h m b) (by omega) (by omega) (.inl ⟨_, parseA_back hg h0 h1⟩)
    have E3 := parse_att (x := (attrsB o zs h m b).take 4) (by rw [List.length_take]; omega) (by rw [List.length_take]; omega) (.inr ⟨_, parseA_four hg⟩)
    generalize attrsB o zs h m b = x at *
    obtain ⟨L2, hL2⟩ : ∃ L2 : List UInt8, L2 = [0, 0] ++ (be (x.length : Int) 2 ++ x) := ⟨_, rfl⟩
    obtain ⟨L3, hL3⟩ : ∃ L3 : List UInt8, L3 = [0, 0] ++ (be ((x.take 4).length : Int) 2 ++ x.take 4) := ⟨_, rfl⟩
    rw [← hL2] at E2
    rw [← hL3] at E3
    replace hL2 := Lib.hid hL2
    replace hL3 := Lib.hid hL3
    replace E2 := Lib.hid E2
    replace E3 := Lib.hid E3
    replace hg := Lib.hid hg
    obtain ⟨A7, c7, rfl, hc7, _, by7, _⟩ := own7.any2
    have d4 : ¬ ((x.length : Int) < 4) := by omega
    go_upto_region 10 with (fail)
    clear own7 q0 q1 q2 q3 q4 ql
    have hL2e := Lib.hid (show L2 = [0, 0, byOf ((x.length : Int) / 256), byOf (x.length : Int)] ++ x by rw [hL2.out]; simp [be])
    have hL3e := Lib.hid (show L3 = [0, 0, 0, 4] ++ x.take 4 by rw [hL3.out, List.length_take, Nat.min_eq_left (by omega)]; rfl)
    obtain ⟨A8, hsl8, hby8⟩ := slice_take A7 x.length c7 4 (by omega) hc7
    replace hsl8 : ∀ w, (Instr.slice 36 (.slice A7 x.length c7) none (some (.int .i64 4)) none).run Try.prog w = .ok (.slice A8 4 c7) w := hsl8
    have hx4 : (x.take 4).length = 4 := by rw [List.length_take]; omega
    have hlit := OwnB.lit (base := w7.heap.size) w7 [0, 0, byOf ((x.length : Int) / 256), byOf (x.length : Int)] (Nat.le_refl _) (by unfold maxLen; simp)
    have ec : byCells [0, 0, byOf ((x.length : Int) / 256), byOf (x.length : Int)] = #[.int .u8 0, .int .u8 0, .int .u8 ((x.length : Int) / 256), .int .u8 (x.length : Int)] := by unfold byCells; simp [byOf_val]; omega
    rw [ec] at hlit
    replace ec := Lib.hid ec
    have hb := (Below.refl w7.heap.size w7).alloc (Nat.le_refl _) (.cells #[.int .u8 0, .int .u8 0, .int .u8 ((x.length : Int) / 256), .int .u8 (x.length : Int)] 5)
    have byz := by7.alloc (Nat.le_refl _) (.cells #[.int .u8 0, .int .u8 0, .int .u8 ((x.length : Int) / 256), .int .u8 (x.length : Int)] 5)
    have hzl := hb.size
    go_wp2_with (at_builtin; refine wpList_app _ rfl (.tmp 70) (.tmp 71) rfl w7.heap.size _ _ _ rfl hlit _ _ _ _ _ rfl byz (by first | (simp; done) | (simp; omega) | omega) (by omega) ?_; intro v9 w9 own9 hg9 hd9; clear hd9; have hb9 := hlit.below_app hg9 (by omega); rw [← hL2e.out] at own9; obtain ⟨A9, c9, rfl, _, _, by9, _⟩ := own9.any2; refine Hid.out ?_)
    refine Lib.hid ?_
    clear own9 hlit hg9 byz hzl
    have hbx := hb.trans hb9
    clear hb hb9
    replace hq := hq.below hbx hq.lt
    replace hB := hB.trans (hbx.mono hB.size)
    replace hs := hs.nxP hbx
    replace hN := hN.nx hbx
    replace by7 := by7.nx hbx
    clear hbx
    go_wp2_with fail
    refine (upParse_any w9 A9 _ c9 L2 by9 (by first | (simp; done) | (simp; omega) | omega)).mono ?_
    rintro e w10 ⟨hb, hP⟩
    rw [E2.out] at hP
    obtain ⟨X1p, y1p, Xp, yp, X2p, y2p, rfl, up⟩ := hP.zero
    clear hP by9
    replace hq := hq.below hb hq.lt
    replace hB := hB.trans (hb.mono hB.size)
    replace hs := hs.nxP hb
    replace hN := hN.nx hb
    replace by7 := by7.nx hb
    clear hb
    have hb := ((Below.refl w10.heap.size w10).alloc (Nat.le_refl _) (.cells #[.slice X1p 0 y1p, .int .i64 0, .slice Xp 0 yp, .int .u32 0, .int .i64 0, .bool false, .slice X2p 0 y2p] 28)).alloc (by simp) (.cells #[.int .i64 0, .int .i64 0, .slice none 0 0] 44)
    have hup := (Blk.new w10 28 #[.slice X1p 0 y1p, .int .i64 0, .slice Xp 0 yp, .int .u32 0, .int .i64 0, .bool false, .slice X2p 0 y2p]).alloc (.cells #[.int .i64 0, .int .i64 0, .slice none 0 0] 44)
    have hfp : Blk ((w10.alloc (.cells #[.slice X1p 0 y1p, .int .i64 0, .slice Xp 0 yp, .int .u32 0, .int .i64 0, .bool false, .slice X2p 0 y2p] 28)).alloc (.cells #[.int .i64 0, .int .i64 0, .slice none 0 0] 44)) (w10.heap.size + 1) 44 #[.int .i64 0, .int .i64 0, .slice none 0 0] := by
      have := Blk.new (w10.alloc (.cells #[.slice X1p 0 y1p, .int .i64 0, .slice Xp 0 yp, .int .u32 0, .int .i64 0, .bool false, .slice X2p 0 y2p] 28)) 44 #[.int .i64 0, .int .i64 0, .slice none 0 0]
      simpa using this
    replace up := up.nx hb
    replace hq := hq.below hb hq.lt
    replace hB := hB.trans (hb.mono hB.size)
    replace hs := hs.nxP hb
    replace hN := hN.nx hb
    replace by7 := by7.nx hb
    go_upto_region 11 with (fail)
    generalize (w10.alloc (.cells #[.slice X1p 0 y1p, .int .i64 0, .slice Xp 0 yp, .int .u32 0, .int .i64 0, .bool false, .slice X2p 0 y2p] 28)).alloc (.cells #[.int .i64 0, .int .i64 0, .slice none 0 0] 44) = wp at *
    generalize w10.heap.size = gp at *
    clear hb
    have by8 := hby8 _ _ _ by7
    have hlit := OwnB.lit (base := wp.heap.size) wp [0, 0, 0, 4] (Nat.le_refl _) (by unfold maxLen; simp)
    have ec : byCells [0, 0, 0, 4] = #[.int .u8 0, .int .u8 0, .int .u8 0, .int .u8 4] := by unfold byCells; rfl
    rw [ec] at hlit
    replace ec := Lib.hid ec
    have hb := (Below.refl wp.heap.size wp).alloc (Nat.le_refl _) (.cells #[.int .u8 0, .int .u8 0, .int .u8 0, .int .u8 4] 5)
    have byz := by8.alloc (Nat.le_refl _) (.cells #[.int .u8 0, .int .u8 0, .int .u8 0, .int .u8 4] 5)
    have hzl := hb.size
    go_wp2_with (at_builtin; refine wpList_app _ rfl (.tmp 77) (.tmp 79) rfl wp.heap.size _ _ _ rfl hlit _ _ _ _ _ rfl byz (by first | (simp; done) | (simp; omega) | omega) (by omega) ?_; intro v9 w9 own9 hg9 hd9; clear hd9; have hb9 := hlit.below_app hg9 (by omega); rw [← hL3e.out] at own9; obtain ⟨A9, c9, rfl, _, _, by9, _⟩ := own9.any2; refine Hid.out ?_)
    refine Lib.hid ?_
    clear own9 hlit hg9 byz hzl
    have hbx := hb.trans hb9
    clear hb hb9
    replace hq := hq.below hbx hq.lt
    replace hB := hB.trans (hbx.mono hB.size)
    replace hs := hs.nxP hbx
    replace hN := hN.nx hbx
    replace by7 := by7.nx hbx
    replace hup := hup.below hbx hup.lt
    replace hfp := hfp.below hbx hfp.lt
    replace up := up.nx hbx
    clear hbx
    go_wp2_with fail
    refine (upParse_any w9 A9 _ c9 L3 by9 (by first | (simp; done) | (simp; omega) | omega)).mono ?_
    rintro e w10 ⟨hb, hP⟩
    rw [E3.out] at hP
    obtain ⟨X1q, y1q, Xq, yq, X2q, y2q, rfl, uq⟩ := hP.zero
    clear hP by9
    replace hq := hq.below hb hq.lt
    replace hB := hB.trans (hb.mono hB.size)
    replace hs := hs.nxP hb
    replace hN := hN.nx hb
    replace by7 := by7.nx hb
    replace hup := hup.below hb hup.lt
    replace hfp := hfp.below hb hfp.lt
    replace up := up.nx hb
    clear hb
    have hb := ((Below.refl w10.heap.size w10).alloc (Nat.le_refl _) (.cells #[.slice X1q 0 y1q, .int .i64 0, .slice Xq 0 yq, .int .u32 0, .int .i64 0, .bool false, .slice X2q 0 y2q] 28)).alloc (by simp) (.cells #[.int .i64 0, .int .i64 0, .slice none 0 0] 44)
    have huq := (Blk.new w10 28 #[.slice X1q 0 y1q, .int .i64 0, .slice Xq 0 yq, .int .u32 0, .int .i64 0, .bool false, .slice X2q 0 y2q]).alloc (.cells #[.int .i64 0, .int .i64 0, .slice none 0 0] 44)
    have hfq : Blk ((w10.alloc (.cells #[.slice X1q 0 y1q, .int .i64 0, .slice Xq 0 yq, .int .u32 0, .int .i64 0, .bool false, .slice X2q 0 y2q] 28)).alloc (.cells #[.int .i64 0, .int .i64 0, .slice none 0 0] 44)) (w10.heap.size + 1) 44 #[.int .i64 0, .int .i64 0, .slice none 0 0] := by
      have := Blk.new (w10.alloc (.cells #[.slice X1q 0 y1q, .int .i64 0, .slice Xq 0 yq, .int .u32 0, .int .i64 0, .bool false, .slice X2q 0 y2q] 28)) 44 #[.int .i64 0, .int .i64 0, .slice none 0 0]
      simpa using this
    replace uq := uq.nx hb
    replace hq := hq.below hb hq.lt
    replace hB := hB.trans (hb.mono hB.size)
    replace hs := hs.nxP hb
    replace hN := hN.nx hb
    replace by7 := by7.nx hb
    replace hup := hup.below hb hup.lt
    replace hfp := hfp.below hb hfp.lt
    replace up := up.nx hb
    go_upto_region 12 with (fail)
    generalize (w10.alloc (.cells #[.slice X1q 0 y1q, .int .i64 0, .slice Xq 0 yq, .int .u32 0, .int .i64 0, .bool false, .slice X2q 0 y2q] 28)).alloc (.cells #[.int .i64 0, .int .i64 0, .slice none 0 0] 44) = wq at *
    generalize w10.heap.size = gq at *
    clear hb
    have fp0 : wq.cell? ⟨gp + 1, 0, none⟩ = some (.int .i64 0) := hfp.cellv 0 rfl
    have fq0 : wq.cell? ⟨gq + 1, 0, none⟩ = some (.int .i64 0) := hfq.cellv 0 rfl
    have fpl := hfp.lt
    have fql := hfq.lt
    have p0 : wq.cell? ⟨gp, 0, none⟩ = some (.slice X1p 0 y1p) := hup.cellv 0 rfl
    have p1 : wq.cell? ⟨gp, 1, none⟩ = some (.int .i64 0) := hup.cellv 1 rfl
    have p2 : wq.cell? ⟨gp, 2, none⟩ = some (.slice Xp 0 yp) := hup.cellv 2 rfl
    have p3 : wq.cell? ⟨gp, 3, none⟩ = some (.int .u32 0) := hup.cellv 3 rfl
    have p4 : wq.cell? ⟨gp, 4, none⟩ = some (.int .i64 0) := hup.cellv 4 rfl
    have p5 : wq.cell? ⟨gp, 5, none⟩ = some (.bool false) := hup.cellv 5 rfl
    have p6 : wq.cell? ⟨gp, 6, none⟩ = some (.slice X2p 0 y2p) := hup.cellv 6 rfl
    have pl := hup.lt
    have q0 : wq.cell? ⟨gq, 0, none⟩ = some (.slice X1q 0 y1q) := huq.cellv 0 rfl
    have q1 : wq.cell? ⟨gq, 1, none⟩ = some (.int .i64 0) := huq.cellv 1 rfl
    have q2 : wq.cell? ⟨gq, 2, none⟩ = some (.slice Xq 0 yq) := huq.cellv 2 rfl
    have q3 : wq.cell? ⟨gq, 3, none⟩ = some (.int .u32 0) := huq.cellv 3 rfl
    have q4 : wq.cell? ⟨gq, 4, none⟩ = some (.int .i64 0) := huq.cellv 4 rfl
    have q5 : wq.cell? ⟨gq, 5, none⟩ = some (.bool false) := huq.cellv 5 rfl
    have q6 : wq.cell? ⟨gq, 6, none⟩ = some (.slice X2q 0 y2q) := huq.cellv 6 rfl
    have ql := huq.lt
    go_wp2_with fail
    refine (upEmpty_any wq X1p 0 y1p [] 0 Xp 0 yp [] 0 0 false X2p 0 y2p [] (by omega) (by omega)).mono ?_
    rintro e wr ⟨rfl, hb⟩
    replace hq := hq.below hb hq.lt
    replace hB := hB.trans (hb.mono hB.size)
    replace hs := hs.nxP hb
    replace hN := hN.nx hb
    replace hup := hup.below hb hup.lt
    replace up := up.nx hb
    replace huq := huq.below hb huq.lt
    replace uq := uq.nx hb
    clear p0 p1 p2 p3 p4 p5 p6 pl q0 q1 q2 q3 q4 q5 q6 ql
    have p0 : wr.cell? ⟨gp, 0, none⟩ = some (.slice X1p 0 y1p) := hup.cellv 0 rfl
    have p1 : wr.cell? ⟨gp, 1, none⟩ = some (.int .i64 0) := hup.cellv 1 rfl
    have p2 : wr.cell? ⟨gp, 2, none⟩ = some (.slice Xp 0 yp) := hup.cellv 2 rfl
    have p3 : wr.cell? ⟨gp, 3, none⟩ = some (.int .u32 0) := hup.cellv 3 rfl
    have p4 : wr.cell? ⟨gp, 4, none⟩ = some (.int .i64 0) := hup.cellv 4 rfl
    have p5 : wr.cell? ⟨gp, 5, none⟩ = some (.bool false) := hup.cellv 5 rfl
    have p6 : wr.cell? ⟨gp, 6, none⟩ = some (.slice X2p 0 y2p) := hup.cellv 6 rfl
    have pl := hup.lt
    have q0 : wr.cell? ⟨gq, 0, none⟩ = some (.slice X1q 0 y1q) := huq.cellv 0 rfl
    have q1 : wr.cell? ⟨gq, 1, none⟩ = some (.int .i64 0) := huq.cellv 1 rfl
    have q2 : wr.cell? ⟨gq, 2, none⟩ = some (.slice Xq 0 yq) := huq.cellv 2 rfl
    have q3 : wr.cell? ⟨gq, 3, none⟩ = some (.int .u32 0) := huq.cellv 3 rfl
    have q4 : wr.cell? ⟨gq, 4, none⟩ = some (.int .i64 0) := huq.cellv 4 rfl
    have q5 : wr.cell? ⟨gq, 5, none⟩ = some (.bool false) := huq.cellv 5 rfl
    have q6 : wr.cell? ⟨gq, 6, none⟩ = some (.slice X2q 0 y2q) := huq.cellv 6 rfl
    have ql := huq.lt
    clear hb
    go_wp2_with fail
    refine (upEmpty_any wr X1q 0 y1q [] 0 Xq 0 yq [] 0 0 false X2q 0 y2q [] (by omega) (by omega)).mono ?_
    rintro e ws ⟨rfl, hb⟩
    replace hq := hq.below hb hq.lt
    replace hB := hB.trans (hb.mono hB.size)
    replace hs := hs.nxP hb
    replace hN := hN.nx hb
    replace hup := hup.below hb hup.lt
    replace up := up.nx hb
    replace huq := huq.below hb huq.lt
    replace uq := uq.nx hb
    clear p0 p1 p2 p3 p4 p5 p6 pl q0 q1 q2 q3 q4 q5 q6 ql
    have p0 : ws.cell? ⟨gp, 0, none⟩ = some (.slice X1p 0 y1p) := hup.cellv 0 rfl
    have p1 : ws.cell? ⟨gp, 1, none⟩ = some (.int .i64 0) := hup.cellv 1 rfl
    have p2 : ws.cell? ⟨gp, 2, none⟩ = some (.slice Xp 0 yp) := hup.cellv 2 rfl
    have p3 : ws.cell? ⟨gp, 3, none⟩ = some (.int .u32 0) := hup.cellv 3 rfl
    have p4 : ws.cell? ⟨gp, 4, none⟩ = some (.int .i64 0) := hup.cellv 4 rfl
    have p5 : ws.cell? ⟨gp, 5, none⟩ = some (.bool false) := hup.cellv 5 rfl
    have p6 : ws.cell? ⟨gp, 6, none⟩ = some (.slice X2p 0 y2p) := hup.cellv 6 rfl
    have pl := hup.lt
    have q0 : ws.cell? ⟨gq, 0, none⟩ = some (.slice X1q 0 y1q) := huq.cellv 0 rfl
    have q1 : ws.cell? ⟨gq, 1, none⟩ = some (.int .i64 0) := huq.cellv 1 rfl
    have q2 : ws.cell? ⟨gq, 2, none⟩ = some (.slice Xq 0 yq) := huq.cellv 2 rfl
    have q3 : ws.cell? ⟨gq, 3, none⟩ = some (.int .u32 0) := huq.cellv 3 rfl
    have q4 : ws.cell? ⟨gq, 4, none⟩ = some (.int .i64 0) := huq.cellv 4 rfl
    have q5 : ws.cell? ⟨gq, 5, none⟩ = some (.bool false) := huq.cellv 5 rfl
    have q6 : ws.cell? ⟨gq, 6, none⟩ = some (.slice X2q 0 y2q) := huq.cellv 6 rfl
    have ql := huq.lt
    clear hb
    go_wp2_with fail
    refine (upSame_any ws X1p 0 y1p [] 0 Xp 0 yp [] 0 0 false X2p 0 y2p [] X1q 0 y1q [] 0 Xq 0 yq [] 0 0 false X2q 0 y2q [] up uq (by omega) (by omega) (by omega)).mono ?_
    rintro e wt ⟨rfl, hb⟩
    rw [sameU_refl]
    replace hq := hq.below hb hq.lt
    replace hB := hB.trans (hb.mono hB.size)
    replace hs := hs.nxP hb
    replace hN := hN.nx hb
    replace hup := hup.below hb hup.lt
    replace up := up.nx hb
    replace huq := huq.below hb huq.lt
    replace uq := uq.nx hb
    clear p0 p1 p2 p3 p4 p5 p6 pl q0 q1 q2 q3 q4 q5 q6 ql
    go_wp2_with fail
    refine (lives9_any _).mono ?_
    rintro e w9 ⟨rfl, hb9⟩
    go_wp2_with fail
    go_ret
    exact ⟨rfl, hB.trans (hb9.mono hB.size)⟩

end Go.Proofs.Ytfnclmacodchfaa

/-
  What is proved: fairway/fairwaylaw09.UpdateMissing answers true for every input, and each argument reads afterwards as it read before. Conditions: those of the given statement Rows.UpdateMissingSaid, no others.
-/
namespace Go.Proofs.Ytfnclmacodchfaa.lawUpdateMissing
open Go.ChangeShapes Go.WideShapes Go.ChangeAt Go.RowKit
set_option linter.unusedVariables false

theorem own : ownKnob Try.prog.godebug = none := by kernel_rfl
theorem laidOut : laidOutB Try.prog = true := by kernel_rfl

set_option maxRecDepth 100000 in
theorem lifted (os : Os) (started : os.Started) (H : Type) (enc : TypeId × Value → H) :
    ReturnsInHanded {} Try.checked os 5 .any (Rows.updateMissingSpec.pre6 enc Try.prog Try.f5 Rows.updateMissingRow.domain false) (Rows.updateMissingSpec.post enc Try.prog Try.f5 false true false false) := by
  refine returnsInHanded_of_change (C := Try.checked) own started (by kernel_rfl) Try.func5
    (ChangeSpec.witness6 (enc := enc) (C := Try.checked) false ⟨#[], #[.slice none 0 0, .agg #[.int .i64 0, .slice none 0 0, .int .u32 0, .int .i64 0, .bool false]], []⟩ 8 (by kernel_rfl) (by kernel_rfl) (by kernel_rfl) (by kernel_rfl)) ?_
  intro W base args ds gs before hval0 hW hcnd _
  have hval : ∀ (j : Nat) t v, Try.f5.params[j]? = some t → args[j]? = some v → Value.okWide Try.prog W .any base t v := hval0
  have hW' := hW
  obtain ⟨p, q, hA0, hV, rfl, hfz, hnd⟩ := hW
  have hA : DataW.TrodAll enc Try.prog W 0 (fun _ => true) true Try.f5.params.toList args.toList ds p := hA0
  rw [Try.params5] at hA hval
  obtain ⟨v0, vs0, d0, ds0, p0, q0, hargs, rfl, rfl, k0, r0⟩ := trodAll_cons hA
  obtain ⟨v1, vs1, d1, ds1, p1, q1, rfl, rfl, rfl, k1, r1⟩ := trodAll_cons r0
  obtain ⟨rfl, rfl, rfl⟩ := trodAll_nil r1
  obtain rfl : args = #[v0, v1] := by cases args; simp_all
  obtain ⟨rfl, rfl⟩ := trodVars_none hV
  have lt0 : ∀ x ∈ p0, x.block < W.heap.size := by obtain ⟨m, hm⟩ := k0; exact DataW.trod_lt m _ _ _ hm
  have lt1 : ∀ x ∈ p1, x.block < W.heap.size := by obtain ⟨m, hm⟩ := k1; exact DataW.trod_lt m _ _ _ hm
  obtain ⟨a0, n0, c0, l0, rfl, hl0, hm0, w0⟩ := open_pfs Try.underlying22 Try.underlying61 (by kernel_rfl) (by kernel_rfl) rfl rfl rfl Try.underlying24 Try.underlying3 (hval 0 22 v0 rfl rfl) k0
  obtain ⟨ll1, nn1, rfl, hn1, hf1⟩ := open_fields Try.underlying26 (by kernel_rfl) (by kernel_rfl) (hval 1 26 v1 rfl rfl) k1
  obtain ⟨u1_0, y1_0, hu1_0, ht1_0⟩ := hf1 0 _ rfl
  obtain ⟨x1_0, rfl, w1_0⟩ := field_int Try.underlying3 ht1_0
  obtain ⟨u1_1, y1_1, hu1_1, ht1_1⟩ := hf1 1 _ rfl
  obtain ⟨x1_1, n1_1, c1_1, l1_1, rfl, hl1_1, hm1_1, w1_1⟩ := field_nums Try.underlying23 Try.underlying3 (by kernel_rfl) ht1_1
  obtain ⟨u1_2, y1_2, hu1_2, ht1_2⟩ := hf1 2 _ rfl
  obtain ⟨x1_2, rfl, w1_2⟩ := field_int Try.underlying24 ht1_2
  obtain ⟨u1_3, y1_3, hu1_3, ht1_3⟩ := hf1 3 _ rfl
  obtain ⟨x1_3, rfl, w1_3⟩ := field_int Try.underlying3 ht1_3
  obtain ⟨u1_4, y1_4, hu1_4, ht1_4⟩ := hf1 4 _ rfl
  obtain ⟨x1_4, rfl⟩ := field_bool Try.underlying4 ht1_4
  obtain rfl : ll1 = [.int .i64 x1_0, .slice x1_1 n1_1 c1_1, .int .u32 x1_2, .int .i64 x1_3, .bool x1_4] := list_eq_of_get _ _ (by simpa using hn1) (by intro j hj; match j, hj with | 0, _ => exact hu1_0 | 1, _ => exact hu1_1 | 2, _ => exact hu1_2 | 3, _ => exact hu1_3 | 4, _ => exact hu1_4)
  clear hA0 hval0
  refine (missing9_walk a0 n0 c0 l0 x1_0 x1_1 n1_1 c1_1 l1_1 x1_2 x1_3 x1_4 W hl0 hm0 w0 w1_0 hl1_1 hm1_1 w1_1 w1_2 w1_3).mono fun e W' ⟨he, bel⟩ => ?_
  subst he
  exact ⟨_, rfl, _, _, _, [], _, [], hW', trodAll_mk1 (shut_bool Try.underlying4 _), (trodAll_cons_mk (Below.trod laidOut (by kernel_rfl) (of_decide_eq_true (by kernel_rfl)) k0 bel lt0) (trodAll_cons_mk (Below.trod laidOut (by kernel_rfl) (of_decide_eq_true (by kernel_rfl)) k1 bel lt1) trodAll_mk0)), rfl, bel.frame _, fun h => by cases h⟩

theorem proved : Rows.UpdateMissingSaid :=
  OpenClaim.holds_of_wide 5 Try.f5 rfl rfl rfl rfl rfl rfl rfl ⟨rfl, rfl, rfl, rfl, rfl⟩ rfl rfl rfl rfl rfl (by kernel_rfl) Try.func5 (by kernel_rfl)
    (of_decide_eq_true (by kernel_rfl)) (by unfold Func.isWrapper; first | (rw [if_pos (by decide +kernel)]; kernel_rfl) | (rw [if_neg (by decide +kernel)]; exact ⟨rfl, rfl⟩))
    (fun os started H enc _ => lifted os started H enc)
#print axioms proved
end Go.Proofs.Ytfnclmacodchfaa.lawUpdateMissing
