/- open: what is parsed of a body's bytes: plain laws. -/
import Derived.Test.YtlpplclhjkbjbaaOpL
import Derived.Test.YtlpplclhjkbjbaaOpK
namespace Go.Proofs.Ytlpplclhjkbjbaa
set_option linter.unusedVariables false
open Go.RowKit

theorem getN_four (x : Int) : getN (be x 4) 4 = x % 4294967296 := by
  have e : getN (be x 4) 4 = (((0 * 256 + ((byOf (x / 2 ^ (8 * 3))).toNat : Int)) * 256 + ((byOf (x / 2 ^ (8 * 2))).toNat : Int)) * 256 + ((byOf (x / 2 ^ (8 * 1))).toNat : Int)) * 256 + ((byOf (x / 2 ^ (8 * 0))).toNat : Int) := rfl
  rw [e, byOf_val, byOf_val, byOf_val, byOf_val]; omega
theorem num_app (x tl : List UInt8) (a : Int) (k : Nat) (hk : x.length = k) : numV ⟨x ++ tl, a, 0⟩ k = getN x k ∧ (tk ⟨x ++ tl, a, 0⟩ (k : Int)).1 = ⟨tl, a + k, 0⟩ ∧ (tk ⟨x ++ tl, a, 0⟩ (k : Int)).2 = x := by
  rw [tk_app x tl a k hk]
  exact ⟨numV_app x tl a k hk, rfl, rfl⟩
theorem po_head (a h id N : Int) (tl : List UInt8) (a0 : 0 ≤ a) (a1 : a ≤ 65535) (h0 : 0 ≤ h) (h1 : h ≤ 65535) (i0 : 0 ≤ id) (i1 : id ≤ 4294967295) (n0 : 0 ≤ N) (n1 : N ≤ 255) (l : List UInt8) (hl : l = headO a h id ++ (byOf N :: tl)) :
    poV l = 4 ∧ poA l = a ∧ poH l = h ∧ poI l = id ∧ poN l = N ∧ ∃ k, poS5 l = ⟨tl, k, 0⟩ := by
  have e : l = [4] ++ (be a 2 ++ (be h 2 ++ (be id 4 ++ ([byOf N] ++ tl)))) := by rw [hl]; simp [headO]
  have eS : poS l = ⟨[4] ++ (be a 2 ++ (be h 2 ++ (be id 4 ++ ([byOf N] ++ tl)))), 0, 0⟩ := by rw [← e]; rfl
  obtain ⟨v1, t1, -⟩ := num_app [4] (be a 2 ++ (be h 2 ++ (be id 4 ++ ([byOf N] ++ tl)))) 0 1 rfl
  obtain ⟨v2, t2, -⟩ := num_app (be a 2) (be h 2 ++ (be id 4 ++ ([byOf N] ++ tl))) (0 + (1 : Nat)) 2 (be_len _ _)
  obtain ⟨v3, t3, -⟩ := num_app (be h 2) (be id 4 ++ ([byOf N] ++ tl)) (0 + (1 : Nat) + (2 : Nat)) 2 (be_len _ _)
  obtain ⟨v4, t4, -⟩ := num_app (be id 4) ([byOf N] ++ tl) (0 + (1 : Nat) + (2 : Nat) + (2 : Nat)) 4 (be_len _ _)
  obtain ⟨v5, t5, -⟩ := num_app [byOf N] tl (0 + (1 : Nat) + (2 : Nat) + (2 : Nat) + (4 : Nat)) 1 rfl
  have s1 : poS1 l = _ := (congrArg (fun s => (tk s 1).1) eS).trans t1
  have s2 : poS2 l = _ := (congrArg (fun s => (tk s 2).1) s1).trans t2
  have s3 : poS3 l = _ := (congrArg (fun s => (tk s 2).1) s2).trans t3
  have s4 : poS4 l = _ := (congrArg (fun s => (tk s 4).1) s3).trans t4
  have s5 : poS5 l = _ := (congrArg (fun s => (tk s 1).1) s4).trans t5
  refine ⟨?_, ?_, ?_, ?_, ?_, _, s5⟩
  · exact ((congrArg (fun s => numV s 1) eS).trans v1).trans rfl
  · exact ((congrArg (fun s => numV s 2) s1).trans v2).trans (by rw [getN_two]; omega)
  · exact ((congrArg (fun s => numV s 2) s2).trans v3).trans (by rw [getN_two]; omega)
  · exact ((congrArg (fun s => numV s 4) s3).trans v4).trans (by rw [getN_four]; omega)
  · exact ((congrArg (fun s => numV s 1) s4).trans v5).trans (by rw [getN_one]; omega)
theorem parseO_head (a h id N : Int) (tl : List UInt8) (p : Int) (a0 : 1 ≤ a) (a1 : a ≤ 65535) (hh : holdB h = true) (hi : id ≠ 0) (i0 : 0 ≤ id) (i1 : id ≤ 4294967295) (n0 : 0 ≤ N) (n1 : N ≤ 255) :
    ∃ k, parseO (headO a h id ++ (byOf N :: tl)) p = if 1 ≤ p ∧ a ≠ p then .error (2, []) else if N ≠ tl.length then .error (0, []) else match parS ⟨tl, k, 0⟩ with
      | .error x => .error (x, [])
      | .ok ds => .ok (a, h, id, ds) := by
  have hb : h = 0 ∨ (3 ≤ h ∧ h ≤ 65535) := by unfold holdB at hh; simpa using hh
  obtain ⟨e1, e2, e3, e4, e5, k, e6⟩ := po_head a h id N tl (by omega) a1 (by omega) (by omega) i0 i1 n0 n1 _ rfl
  refine ⟨k, ?_⟩
  unfold parseO
  rw [e1, e2, e3, e4, e5, e6, hh]
  rw [if_neg (by rw [List.length_append, headO_len, List.length_cons]; omega), if_neg (by simp), if_neg (by simp : ¬ (true = false)), if_neg hi]
  have hlv : leftV ⟨tl, k, 0⟩ = (tl.length : Int) := by unfold leftV; rw [if_pos rfl]
  rw [hlv]
  by_cases hp : 1 ≤ p ∧ a ≠ p
  · rw [if_pos (.inr hp), if_pos hp]
  · rw [if_neg (by rintro (h | h); omega; exact hp h), if_neg hp]; rfl
theorem cp_one (t : Int) (v tl : List UInt8) (a : Int) (t0 : 0 ≤ t) (t1 : t ≤ 255) (hv : v.length ≤ 255) :
    cpT ⟨[byOf t] ++ ([byOf v.length] ++ (v ++ tl)), a, 0⟩ = t ∧ cpV ⟨[byOf t] ++ ([byOf v.length] ++ (v ++ tl)), a, 0⟩ = v ∧ (∃ k, cpS3 ⟨[byOf t] ++ ([byOf v.length] ++ (v ++ tl)), a, 0⟩ = ⟨tl, k, 0⟩) ∧ 0 < leftV ⟨[byOf t] ++ ([byOf v.length] ++ (v ++ tl)), a, 0⟩ := by
  obtain ⟨v1, t1', -⟩ := num_app [byOf t] ([byOf v.length] ++ (v ++ tl)) a 1 rfl
  obtain ⟨v2, t2, -⟩ := num_app [byOf v.length] (v ++ tl) (a + (1 : Nat)) 1 rfl
  have t3 := tk_app v tl (a + (1 : Nat) + (1 : Nat)) v.length rfl
  have s1 : cpS1 ⟨[byOf t] ++ ([byOf v.length] ++ (v ++ tl)), a, 0⟩ = _ := t1'
  have s2 : cpS2 ⟨[byOf t] ++ ([byOf v.length] ++ (v ++ tl)), a, 0⟩ = _ := (congrArg (fun s => (tk s 1).1) s1).trans t2
  have eN : cpN ⟨[byOf t] ++ ([byOf v.length] ++ (v ++ tl)), a, 0⟩ = v.length := ((congrArg (fun s => numV s 1) s1).trans v2).trans (by rw [getN_one]; omega)
  refine ⟨v1.trans (by rw [getN_one]; omega), ?_, ⟨a + (1 : Nat) + (1 : Nat) + v.length, ?_⟩, leftV_app _ _ _⟩
  · unfold cpV; rw [eN, s2, t3]
  · unfold cpS3; rw [eN, s2, t3]
theorem capsS_caps : ∀ (cs : List CapV) (a : Int), cs.all capOk = true → (∀ r ∈ cs, r.v.length = r.n) → capsS ⟨capsL cs, a, 0⟩ = some (cs.map capKey)
  | [], a, _, _ => seqL_end (by unfold leftV; rw [if_pos rfl]; simp [capsL])
  | r :: cs, a, hg, hv => by
    simp only [List.all_cons, Bool.and_eq_true] at hg
    have h1 : (0 ≤ r.t ∧ r.t ≤ 255) ∧ r.n ≤ 100 := by have := hg.1; unfold capOk at this; simpa using this
    have hr := hv r (by simp)
    have e : capsL (r :: cs) = [byOf r.t] ++ ([byOf r.v.length] ++ (r.v ++ capsL cs)) := by unfold capsL; rw [List.flatMap_cons, hr]; simp [capL]
    rw [e]
    obtain ⟨q1, q2, ⟨k, q3⟩, q4⟩ := cp_one r.t r.v (capsL cs) a h1.1.1 h1.1.2 (by omega)
    rw [capsS_go q4 (by rw [q3]), q1, q2, q3, capsS_caps cs k hg.2 fun r hr => hv r (List.mem_cons_of_mem _ hr)]
    rfl
theorem parS_nil (a : Int) : parS ⟨[], a, 0⟩ = .ok [] := parS_end (by unfold leftV; rw [if_pos rfl]; simp)
theorem parS_caps (cs : List CapV) (a : Int) (hg : cs.all capOk = true) (hs : capSum cs ≤ 200) (hv : ∀ r ∈ cs, r.v.length = r.n) : parS ⟨[2, byOf (capSum cs)] ++ capsL cs, a, 0⟩ = .ok (cs.map capKey) := by
  have hl := capsL_len cs hv
  have e : [2, byOf (capSum cs)] ++ capsL cs = [byOf 2] ++ ([byOf (capsL cs).length] ++ (capsL cs ++ [])) := by rw [hl]; simp; rfl
  rw [e]
  obtain ⟨q1, q2, ⟨k, q3⟩, q4⟩ := cp_one 2 (capsL cs) [] a (by omega) (by omega) (by omega)
  rw [parS_go q4 (by rw [q3]) q1 (by rw [q2]; exact capsS_caps cs 0 hg hv), q3, parS_nil, map_ok, List.append_nil]
/-- what follows the head: how many bytes, and which. -/
def tailO (cs : List CapV) : List UInt8 := if cs.length = 0 then [] else [2, byOf (capSum cs)] ++ capsL cs
theorem bytesO_eq (a h id : Int) (cs : List CapV) (hg : goodO a h id cs = true) (hv : ∀ r ∈ cs, r.v.length = r.n) : bytesO a h id cs = headO a h id ++ (byOf (tailO cs).length :: tailO cs) ∧ (tailO cs).length ≤ 202 := by
  have hs : capSum cs ≤ 200 := by unfold goodO at hg; simp at hg; omega
  have hl := capsL_len cs hv
  unfold bytesO tailO
  rw [if_pos hg]
  by_cases h0 : cs.length = 0
  · rw [if_pos h0, if_pos h0]; exact ⟨rfl, by simp⟩
  · rw [if_neg h0, if_neg h0]
    have e : (([2, byOf (capSum cs)] ++ capsL cs).length : Int) = capSum cs + 2 := by simp [hl]; omega
    refine ⟨?_, by simp [hl]; omega⟩
    rw [e]; rfl
theorem parS_tail (cs : List CapV) (a : Int) (hg : cs.all capOk = true) (hs : capSum cs ≤ 200) (hv : ∀ r ∈ cs, r.v.length = r.n) : parS ⟨tailO cs, a, 0⟩ = .ok (cs.map capKey) := by
  unfold tailO
  by_cases h0 : cs.length = 0
  · rw [if_pos h0, parS_nil, List.eq_nil_of_length_eq_zero h0]; rfl
  · rw [if_neg h0]; exact parS_caps cs a hg hs hv
section
variable {a h id : Int} {cs : List CapV} (hg : goodO a h id cs = true) (hv : ∀ r ∈ cs, r.v.length = r.n) (i0 : 0 ≤ id) (i1 : id ≤ 4294967295)
include hg hv i0 i1
theorem parse_back (p : Int) : parseO (bytesO a h id cs) p = if 1 ≤ p ∧ a ≠ p then .error (2, []) else .ok (a, h, id, cs.map capKey) := by
  obtain ⟨e, hl⟩ := bytesO_eq a h id cs hg hv
  unfold goodO at hg
  simp only [Bool.and_eq_true, decide_eq_true_eq, bne_iff_ne, ne_eq] at hg
  obtain ⟨k, hp⟩ := parseO_head a h id (tailO cs).length (tailO cs) p hg.1.1.1.1 hg.1.1.1.2 hg.1.1.2 hg.1.2 i0 i1 (by omega) (by omega)
  rw [e, hp, if_neg (by simp : ¬ ((tailO cs).length : Int) ≠ (tailO cs).length), parS_tail cs k hg.2.1 hg.2.2 hv]
theorem parse_cut (k : Nat) (hk : k < (bytesO a h id cs).length) : parseO ((bytesO a h id cs).take k) 0 = .error (0, []) := by
  by_cases h10 : k < 10
  · unfold parseO; rw [if_pos (by rw [List.length_take]; omega)]
  obtain ⟨e, hl⟩ := bytesO_eq a h id cs hg hv
  rw [e] at hk ⊢
  rw [List.length_append, headO_len, List.length_cons] at hk
  unfold goodO at hg
  simp only [Bool.and_eq_true, decide_eq_true_eq, bne_iff_ne, ne_eq] at hg
  have ht : (headO a h id ++ (byOf (tailO cs).length :: tailO cs)).take k = headO a h id ++ (byOf (tailO cs).length :: (tailO cs).take (k - 10)) := by
    rw [List.take_append, headO_len, List.take_of_length_le (by rw [headO_len]; omega), show k - 9 = (k - 10) + 1 by omega, List.take_succ_cons]
  obtain ⟨j, hp⟩ := parseO_head a h id (tailO cs).length ((tailO cs).take (k - 10)) 0 hg.1.1.1.1 hg.1.1.1.2 hg.1.1.2 hg.1.2 i0 i1 (by omega) (by omega)
  rw [ht, hp, if_neg (by omega), if_pos (by rw [List.length_take]; omega)]
theorem parse_more (x : UInt8) : parseO (bytesO a h id cs ++ [x]) 0 = .error (0, []) := by
  obtain ⟨e, hl⟩ := bytesO_eq a h id cs hg hv
  unfold goodO at hg
  simp only [Bool.and_eq_true, decide_eq_true_eq, bne_iff_ne, ne_eq] at hg
  obtain ⟨j, hp⟩ := parseO_head a h id (tailO cs).length (tailO cs ++ [x]) 0 hg.1.1.1.1 hg.1.1.1.2 hg.1.1.2 hg.1.2 i0 i1 (by omega) (by omega)
  rw [e, List.append_assoc, List.cons_append, hp, if_neg (by omega), if_pos (by rw [List.length_append, List.length_singleton]; omega)]
end
end Go.Proofs.Ytlpplclhjkbjbaa
