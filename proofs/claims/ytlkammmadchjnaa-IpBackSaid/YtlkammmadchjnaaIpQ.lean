/- ip: what Forward and Rewrite do to a head. -/
import Derived.Test.YtlkammmadchjnaaIpP
namespace Go.Proofs.Ytlkammmadchjnaa
set_option linter.unusedVariables false
open Go.RowKit

theorem setAt_len (l : List UInt8) (p : Nat) (x : List UInt8) (h : p + x.length ≤ l.length) : (setAt l p x).length = l.length := by
  simp [setAt]; omega
theorem take_three' {α : Type} (A B C : List α) (n p m : Nat) (hA : A.length = p) (hB : B.length = m) (hn : p + m ≤ n) : (A ++ (B ++ C)).take n = A ++ (B ++ C.take (n - (p + m))) := by
  rw [← List.append_assoc, ← List.append_assoc, List.take_append, List.take_of_length_le (by simp; omega)]
  congr 2
  simp; omega
theorem row_setAt {w w' : World} {base g n cap : Nat} {l : List UInt8} (p : Nat) (x : List UInt8) (hp : p + x.length ≤ n) (cur : Array Value)
    (h : OwnB w base (.slice (some ⟨g, 0, none⟩) n cap) n l) (hs : cur.size = cap) (ht : cur.toList.take n = bvs l) (hm : cap ≤ maxLen) (hb : base ≤ g) (hnc : n ≤ cap)
    (hw' : w'.heap[g]? = some (.cells (splice cur.toList p (bvs x)).toArray 5 (0, 0))) : OwnB w' base (.slice (some ⟨g, 0, none⟩) n cap) n (setAt l p x) := by
  have hl : l.length = n := h.len
  have h2 : (bvs x).length = x.length := bvs_len x
  have hcl : cur.toList.length = cap := by simpa using hs
  refine ⟨by rw [bvs_len, setAt_len _ _ _ (by omega)]; omega, .inr ⟨g, cap, _, rfl, hb, hw', hnc, hm, ?_, ?_⟩⟩
  · have := length_splice cur.toList p (bvs x) (by omega)
    simp only [List.size_toArray, this]; omega
  · simp only [Nat.mul_one]
    unfold splice setAt
    rw [bvs_app, bvs_app, h2]
    have e1 : bvs (l.take p) = cur.toList.take p := by
      rw [show bvs (l.take p) = (bvs l).take p from by simp [bvs, List.map_take], ← ht, List.take_take]
      congr 1; omega
    have e2 : bvs (l.drop (p + x.length)) = (cur.toList.drop (p + x.length)).take (n - (p + x.length)) := by
      rw [show bvs (l.drop (p + x.length)) = (bvs l).drop (p + x.length) from by simp [bvs, List.map_drop], ← ht, List.drop_take]
    rw [e1, e2, take_three' _ _ _ n p x.length (by simp; omega) h2 hp]

set_option maxHeartbeats 1000000 in
theorem fwd1_no (w : World) (base g n cap K : Nat) (l : List UInt8) (h : OwnB w base (.slice (some ⟨g, 0, none⟩) n cap) n l) (hK : 20 ≤ K) (hKn : K ≤ n) (h8 : byAt l 8 ≤ 1) :
    Calls Try.prog 43 #[.slice (some ⟨g, 0, none⟩) K cap] w fun e w' => e = .returned (.int .i64 9) ∧ w = w' := by
  have hc := h.cell 8 (by omega)
  have i8 : (8 : Int) < K := by omega
  have b0 := byAt_lo l 8
  go_enter Try.func43, Try.ntmps43
  go_wp2_with fail
  go_ret
  exact ⟨rfl, rfl⟩
set_option maxHeartbeats 1000000 in
theorem fwd1_yes (w : World) (base g n cap K : Nat) (l : List UInt8) (h : OwnB w base (.slice (some ⟨g, 0, none⟩) n cap) n l) (hK : 20 ≤ K) (hKn : K ≤ n) (h8 : 1 < byAt l 8) :
    Calls Try.prog 43 #[.slice (some ⟨g, 0, none⟩) K cap] w fun e w' => e = .returned (.int .i64 0) ∧ OwnB w' base (.slice (some ⟨g, 0, none⟩) n cap) n (l.set 8 (byOf (byAt l 8 - 1))) ∧ w.grownBy w' (some g) := by
  have hc := h.cell 8 (by omega)
  have hf := h.free 8
  have i8 : (8 : Int) < K := by omega
  have b0 := byAt_hi l 8
  have hst := h.store 8 (byAt l 8 - 1) (by omega) (by omega)
  have hg := grown_setCell (grown_refl w (some g)) (p := ⟨g, 8, none⟩) (.inl rfl) (.int .u8 (byAt l 8 - 1))
  go_enter Try.func43, Try.ntmps43
  go_wp2_with fail
  go_ret
  exact ⟨rfl, hst, hg⟩
set_option maxHeartbeats 1000000 in
theorem rew1_any (w : World) (base bx g n cap K : Nat) (l : List UInt8) (dst : Int) (h : OwnB w base (.slice (some ⟨g, 0, none⟩) n cap) n l) (hK : 20 ≤ K) (hKn : K ≤ n) (hn : n ≤ 10000000) (d0 : 0 ≤ dst) (d1 : dst ≤ 4294967295)
    (hbx : w.cell? ⟨bx, 0, none⟩ = some (.int .u32 dst)) (hbl : bx < w.heap.size) (hne : bx ≠ g) :
    Calls Try.prog 45 #[.slice (some ⟨g, 0, none⟩) K cap, .pointer (some ⟨bx, 0, none⟩)] w fun e w' => e = .returned (.int .i64 0) ∧ OwnB w' base (.slice (some ⟨g, 0, none⟩) n cap) n (setAt l 16 (be dst 4)) ∧ w.grownBy w' (some g) := by
  obtain ⟨_, _, e0, hbg, hgl, hc0, hm0⟩ := h.form (by omega)
  injection e0 with e0 _ e1
  injection e0 with e0
  injection e0 with e0
  subst e0 e1
  have hsl : ∀ w, (Instr.slice 23 (.slice (some ⟨g, 0, none⟩) K cap) (some (.int .i64 16)) none none).run Try.prog w = .ok (.slice (some ⟨g, 16, none⟩) (K - 16) (cap - 16)) w := fun w => by
    have := slice_lo g 0 K cap 16 (by omega) (by omega) w
    simpa using this
  go_enter Try.func45, Try.ntmps45
  go_wp2_with fail
  -- region 1: 0 1 2 3C 4M
  try refine wp_region_noPanic ?_
  have hs1r : w.grownBy w.drew (some g) := grown_drew (grown_refl _ _)
  refine wp_region_held_drew (S := fun w' => w.grownBy w' (some g)) (by kernel_rfl) hs1r (fun _ => ?_)
  (refine held_takeA 0 (by rfl) ?_ (by kernel_rfl) (fun _ _ _ h => h) hs1r ?_ ?_; rotate_left; (focus (intro wq hSw; have hrd : ∀ b o, b < w.heap.size → b ≠ g → wq.cell? ⟨b, o, none⟩ = w.cell? ⟨b, o, none⟩ := (fun b o h hne => grown_cell hSw h hne); go_simp; try with_reducible rfl; done)); try simp only [Act.put, List.setIfInBounds_toArray, List.set_cons_zero, List.set_cons_succ])
  (refine held_takeA 1 (by rfl) ?_ (by kernel_rfl) (fun _ _ _ h => h) hs1r ?_ ?_; rotate_left; (focus (intro wq hSw; have hrd : ∀ b o, b < w.heap.size → b ≠ g → wq.cell? ⟨b, o, none⟩ = w.cell? ⟨b, o, none⟩ := (fun b o h hne => grown_cell hSw h hne); go_simp; try with_reducible rfl; done)); try simp only [Act.put, List.setIfInBounds_toArray, List.set_cons_zero, List.set_cons_succ])
  (refine held_takeA 2 (by rfl) ?_ (by kernel_rfl) (fun _ _ _ h => h) hs1r ?_ ?_; rotate_left; (focus (intro wq hSw; have hrd : ∀ b o, b < w.heap.size → b ≠ g → wq.cell? ⟨b, o, none⟩ = w.cell? ⟨b, o, none⟩ := (fun b o h hne => grown_cell hSw h hne); go_simp; try with_reducible rfl; done)); try simp only [Act.put, List.setIfInBounds_toArray, List.set_cons_zero, List.set_cons_succ])
  refine held_callA 3 (by rfl) (by kernel_rfl) (by rfl) (fun KQ hKQ => ?_)
  go_simp
  refine (put32_any w.drew none 0 0 [] 0 Byt.none_ (by omega) (by omega) dst d0 d1).mono ?_
  rintro e w3 ⟨u3, rfl, hown3, hb3⟩
  rw [List.nil_append] at hown3
  obtain ⟨g3, c3, rfl, hg3, hgs3, _, _⟩ := hown3.form (by omega)
  have hw3 := h.drew.below hb3
  have hbw : Below w.heap.size w w3 := ((Below.refl w.heap.size w).drew).trans hb3
  refine hKQ.out _ _ (grown_trans hs1r (grown_of hb3 (Nat.le_refl _) _)) (held_mono (S' := fun w' => w3.grownBy w' (some g)) (fun w' h => grown_trans (grown_trans hs1r (grown_of hb3 (Nat.le_refl _) _)) h) _ _ _ _ ?_)
  clear hKQ KQ
  have hs2r : w3.grownBy w3 (some g) := grown_refl _ _
  try simp only [Act.put, List.setIfInBounds_toArray, List.set_cons_zero, List.set_cons_succ]
  obtain ⟨hxl, hrow⟩ := hw3
  rcases hrow with ⟨q, _⟩ | ⟨gg, cc, cur, q, hbb, hcur, hnc, hcm, hcs, htk⟩
  · cases q
  injection q with q1 _ q2
  injection q1 with q1
  injection q1 with q1
  subst q1 q2
  rw [Nat.mul_one] at hcs htk
  have hsrc : ∀ j v, (bvs (be dst 4))[j]? = some v → w3.cell? ((⟨g3, 0, none⟩ : Addr).add j) = some v := fun j v hj => by
    have hjl : j < (be dst 4).length := by have := (List.getElem?_eq_some_iff.1 hj).1; rwa [bvs_len] at this
    rw [Go.WideShapes.add_plain, ← hj, bvs_get _ j hjl, Nat.zero_add]
    exact hown3.cell j (by rw [be_len] at hjl; omega)
  have hmin : (bvs (be dst 4)).length = Nat.min (0 + 4) (K - 16) := by
    rw [bvs_len, be_len]
    exact (Nat.min_eq_left (by omega)).symm
  refine held_callA 4 (by rfl) (by kernel_rfl) (by rfl) (fun KQ hKQ => ?_)
  refine wp_copy_own (.tmp 5) (.tmp 7) 23 23 (by rfl) 5 Try.underlying23 (by kernel_rfl) g 16 (K - 16) (cap - 16) ⟨g3, 0, none⟩ (0 + 4) c3 (by rfl) (by rfl) cur 5 hcur (bvs (be dst 4)) hmin hsrc (by rw [bvs_len, be_len]; omega) (bvs_one _) ?_
  have hgS := grown_setRow (grown_refl w3 (some g)) (splice cur.toList 16 (bvs (be dst 4))).toArray
  have hfin := row_setAt 16 (be dst 4) (by rw [be_len]; omega) cur ⟨hxl, .inr ⟨g, cap, cur, rfl, hbb, hcur, hnc, hcm, by simpa using hcs, by simpa using htk⟩⟩ hcs htk hcm hbb hnc (setRow_heap w3 g cur _ _ _ hcur)
  generalize w3.setRow g (splice cur.toList 16 (bvs (be dst 4))).toArray = w4 at *
  refine hKQ.out _ _ (grown_trans hs2r hgS) (held_mono (S' := fun w' => w4.grownBy w' (some g)) (fun w' h => grown_trans (grown_trans hs2r hgS) h) _ _ _ _ ?_)
  clear hKQ KQ
  have hs3r : w4.grownBy w4 (some g) := grown_refl _ _
  try simp only [Act.put, List.setIfInBounds_toArray, List.set_cons_zero, List.set_cons_succ]
  refine wpAnyH_done (by kernel_rfl) ?_ _
  try refine NoPanic.normal ?_
  go_wp2_with fail
  go_ret
  exact ⟨rfl, hfin, grown_trans (grown_of hbw (Nat.le_refl _) _) hgS⟩
end Go.Proofs.Ytlkammmadchjnaa
