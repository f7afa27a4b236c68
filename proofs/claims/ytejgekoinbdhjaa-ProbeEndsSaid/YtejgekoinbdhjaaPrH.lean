/- probe: rows in plain terms: what the loops make of them. -/
import Derived.Test.YtejgekoinbdhjaaPrD
namespace Go.Proofs.Ytejgekoinbdhjaa
set_option linter.unusedVariables false
open Go Go.RowKit

/-- a backend: when it is asked next; its number, if it is waited for, and when it was asked. -/
structure Pr where
  id : Int
  nx : Int
  sq : Int
  at_ : Int
def waitOf (r : Pr) : Option (Int × Int) := if 0 < r.sq then some (r.sq, r.at_) else none
def findP (L : List Pr) (id : Int) : Option Pr := L.find? fun r => decide (r.id = id)
def fnL (L : List Pr) : Int → Option Int := fun id => (findP L id).map Pr.nx
def fwL (L : List Pr) : Int → Option (Int × Int) := fun id => (findP L id).bind waitOf
def Dist (L : List Pr) : Prop := L.Pairwise fun a b => a.id < b.id
theorem findP_mid {P Q : List Pr} {r : Pr} (h : ∀ a ∈ P, a.id ≠ r.id) : findP (P ++ r :: Q) r.id = some r := by
  unfold findP
  rw [List.find?_append, List.find?_eq_none.2 (fun a ha => by simpa using h a ha), List.find?_cons_of_pos (by simp)]
  rfl
theorem findP_other {P Q : List Pr} {r : Pr} {j : Int} (h : j ≠ r.id) : findP (P ++ r :: Q) j = findP (P ++ Q) j := by
  unfold findP
  rw [List.find?_append, List.find?_append, List.find?_cons_of_neg (by simpa using fun e => h e.symm)]
theorem findP_none {L : List Pr} {id : Int} (h : ∀ a ∈ L, a.id ≠ id) : findP L id = none := List.find?_eq_none.2 fun a ha => by simpa using h a ha
theorem dist_mid {P Q : List Pr} {r : Pr} (h : Dist (P ++ r :: Q)) : ∀ a ∈ P, a.id ≠ r.id := fun a ha => by
  unfold Dist at h
  rw [List.pairwise_append] at h
  have := h.2.2 a ha r (by simp)
  omega
theorem findP_some {L : List Pr} {r : Pr} (hd : Dist L) (hr : r ∈ L) : findP L r.id = some r := by
  obtain ⟨P, Q, rfl⟩ := List.append_of_mem hr
  exact findP_mid (dist_mid hd)
theorem findP_get {L : List Pr} {r : Pr} {id : Int} (h : findP L id = some r) : r ∈ L ∧ r.id = id := by
  unfold findP at h
  exact ⟨List.mem_of_find?_eq_some h, by simpa using List.find?_some h⟩
theorem dist_ids {L : List Pr} (h : Dist L) : (L.map Pr.id).Pairwise fun a b => a < b := List.pairwise_map.2 h
theorem fn_ids (L : List Pr) (id : Int) : id ∈ L.map Pr.id ↔ (fnL L id).isSome = true := by
  unfold fnL
  rw [Option.isSome_map]
  constructor
  · intro h
    obtain ⟨r, hr, rfl⟩ := List.mem_map.1 h
    unfold findP
    rw [List.find?_isSome]
    exact ⟨r, hr, by simp⟩
  · intro h
    obtain ⟨r, hr⟩ := Option.isSome_iff_exists.1 h
    obtain ⟨h1, h2⟩ := findP_get hr
    exact List.mem_map.2 ⟨r, h1, h2⟩
theorem fn_set {P Q : List Pr} {r r' : Pr} (hd : ∀ a ∈ P, a.id ≠ r.id) (he : r'.id = r.id) : fnL (P ++ r' :: Q) = upd (fnL (P ++ r :: Q)) r.id (some r'.nx) := by
  funext j
  unfold upd fnL
  by_cases h : j = r.id
  · rw [if_pos h, h, ← he, findP_mid (fun a ha => by rw [he]; exact hd a ha)]; rfl
  · rw [if_neg h, findP_other (by rw [he]; exact h), findP_other h]
theorem fw_set {P Q : List Pr} {r r' : Pr} (hd : ∀ a ∈ P, a.id ≠ r.id) (he : r'.id = r.id) : fwL (P ++ r' :: Q) = upd (fwL (P ++ r :: Q)) r.id (waitOf r') := by
  funext j
  unfold upd fwL
  by_cases h : j = r.id
  · rw [if_pos h, h, ← he, findP_mid (fun a ha => by rw [he]; exact hd a ha)]; rfl
  · rw [if_neg h, findP_other (by rw [he]; exact h), findP_other h]
theorem fn_same {P Q : List Pr} {r r' : Pr} (hd : ∀ a ∈ P, a.id ≠ r.id) (he : r'.id = r.id) (hn : r'.nx = r.nx) : fnL (P ++ r' :: Q) = fnL (P ++ r :: Q) := by
  rw [fn_set hd he]
  funext j
  unfold upd
  by_cases h : j = r.id
  · rw [if_pos h, h, hn]; unfold fnL; rw [findP_mid hd]; rfl
  · rw [if_neg h]
theorem fn_at {P Q : List Pr} {r : Pr} (hd : ∀ a ∈ P, a.id ≠ r.id) : fnL (P ++ r :: Q) r.id = some r.nx := by unfold fnL; rw [findP_mid hd]; rfl
theorem fw_at {P Q : List Pr} {r : Pr} (hd : ∀ a ∈ P, a.id ≠ r.id) : fwL (P ++ r :: Q) r.id = waitOf r := by unfold fwL; rw [findP_mid hd]; rfl
theorem snoc_mid (P Q : List Pr) (r : Pr) : P ++ r :: Q = (P ++ [r]) ++ Q := by rw [List.append_assoc]; rfl
theorem dist_to {P Q : List Pr} {r r' : Pr} (h : Dist (P ++ r :: Q)) (he : r'.id = r.id) : Dist (P ++ r' :: Q) := by
  unfold Dist at *
  rw [List.pairwise_append, List.pairwise_cons] at *
  refine ⟨h.1, ⟨fun a ha => by rw [he]; exact h.2.1.1 a ha, h.2.1.2⟩, fun a ha b hb => ?_⟩
  rcases List.mem_cons.1 hb with rfl | hb
  · rw [he]; exact h.2.2 a ha r (by simp)
  · exact h.2.2 a ha b (by simp [hb])
/-- who is lost. -/
def goneB (no pa : Int) (r : Pr) : Bool := decide (0 < r.sq ∧ pa ≤ no - r.at_)
def lostR (no pa : Int) (r : Pr) : Pr := if goneB no pa r then { r with sq := 0 } else r
def lostOf (no pa : Int) (L : List Pr) : List (Int × Int) := (L.filter (goneB no pa)).map fun r => (r.id, r.sq)
theorem lostR_id (no pa : Int) (r : Pr) : (lostR no pa r).id = r.id := by unfold lostR; split <;> rfl
theorem lostR_nx (no pa : Int) (r : Pr) : (lostR no pa r).nx = r.nx := by unfold lostR; split <;> rfl
theorem lost_fold (no pa sq : Int) : ∀ (Q P : List Pr) (acc : List (Int × Int)), Dist (P ++ Q) →
    (Q.map Pr.id).foldl (lostStep no pa) ⟨sq, fnL (P ++ Q), fwL (P ++ Q), acc⟩ = ⟨sq, fnL (P ++ Q.map (lostR no pa)), fwL (P ++ Q.map (lostR no pa)), acc ++ lostOf no pa Q⟩
  | [], P, acc, _ => by simp [lostOf]
  | r :: Q, P, acc, hd => by
    have hm := dist_mid hd
    have hstep : lostStep no pa ⟨sq, fnL (P ++ r :: Q), fwL (P ++ r :: Q), acc⟩ r.id = ⟨sq, fnL ((P ++ [lostR no pa r]) ++ Q), fwL ((P ++ [lostR no pa r]) ++ Q), acc ++ (if goneB no pa r then [(r.id, r.sq)] else [])⟩ := by
      rw [← snoc_mid, fn_same hm (lostR_id no pa r) (lostR_nx no pa r), fw_set hm (lostR_id no pa r)]
      unfold lostStep
      simp only [fw_at hm]
      have same : upd (fwL (P ++ r :: Q)) r.id (waitOf r) = fwL (P ++ r :: Q) := by rw [← fw_set hm rfl]
      unfold goneB lostR goneB
      by_cases hs : 0 < r.sq
      · simp only [waitOf, if_pos hs]
        by_cases hp : pa ≤ no - r.at_
        · simp [hs, hp]
        · have same' : upd (fwL (P ++ r :: Q)) r.id (some (r.sq, r.at_)) = fwL (P ++ r :: Q) := by
            rw [← show waitOf r = some (r.sq, r.at_) from if_pos hs]; exact same
          simp [hs, hp, same']
      · have e : waitOf r = none := if_neg hs
        rw [e]
        simp only [hs, false_and, decide_false, Bool.false_eq_true, if_false, e, List.append_nil]
        rw [← e, same]
    rw [List.map_cons, List.foldl_cons, hstep, lost_fold no pa sq Q _ _ (by rw [← snoc_mid]; exact dist_to hd (lostR_id no pa r)), List.map_cons, ← snoc_mid, List.append_assoc]
    congr 2
    unfold lostOf
    cases hg : goneB no pa r
    · rw [List.filter_cons_of_neg (by rw [hg]; simp)]; rfl
    · rw [List.filter_cons_of_pos hg]; rfl
/-- who is asked. -/
def askAll (no ev : Int) : Int → List Pr → List Pr × Int × List (Int × Int)
  | sq, [] => ([], sq, [])
  | sq, r :: Q =>
    if r.nx = no then ({ r with sq := sq + 1, at_ := no, nx := no + ev } :: (askAll no ev (sq + 1) Q).1, (askAll no ev (sq + 1) Q).2.1, (r.id, sq + 1) :: (askAll no ev (sq + 1) Q).2.2)
    else (r :: (askAll no ev sq Q).1, (askAll no ev sq Q).2.1, (askAll no ev sq Q).2.2)
theorem ask_fold (no ev : Int) : ∀ (Q P : List Pr) (sq : Int) (acc : List (Int × Int)), 0 ≤ sq → Dist (P ++ Q) →
    (Q.map Pr.id).foldl (askStep no ev) ⟨sq, fnL (P ++ Q), fwL (P ++ Q), acc⟩ = ⟨(askAll no ev sq Q).2.1, fnL (P ++ (askAll no ev sq Q).1), fwL (P ++ (askAll no ev sq Q).1), acc ++ (askAll no ev sq Q).2.2⟩
  | [], P, sq, acc, _, _ => by simp [askAll]
  | r :: Q, P, sq, acc, h0, hd => by
    have hm := dist_mid hd
    by_cases hn : r.nx = no
    · obtain ⟨r', hr'⟩ : ∃ r' : Pr, r' = { r with sq := sq + 1, at_ := no, nx := no + ev } := ⟨_, rfl⟩
      have hid : r'.id = r.id := by rw [hr']
      have hstep : askStep no ev ⟨sq, fnL (P ++ r :: Q), fwL (P ++ r :: Q), acc⟩ r.id = ⟨sq + 1, fnL ((P ++ [r']) ++ Q), fwL ((P ++ [r']) ++ Q), acc ++ [(r.id, sq + 1)]⟩ := by
        rw [← snoc_mid, fn_set hm hid, fw_set hm hid]
        unfold askStep
        rw [if_pos (by simp only [fn_at hm]; exact hn)]
        have e1 : r'.nx = no + ev := by rw [hr']
        have e2 : waitOf r' = some (sq + 1, no) := by rw [hr']; exact if_pos (by show 0 < sq + 1; omega)
        rw [e1, e2]
      rw [List.map_cons, List.foldl_cons, hstep, ask_fold no ev Q _ _ _ (by omega) (by rw [← snoc_mid]; exact dist_to hd hid)]
      have ea : askAll no ev sq (r :: Q) = (r' :: (askAll no ev (sq + 1) Q).1, (askAll no ev (sq + 1) Q).2.1, (r.id, sq + 1) :: (askAll no ev (sq + 1) Q).2.2) := by rw [hr']; exact if_pos hn
      rw [ea]
      simp only
      rw [snoc_mid P (askAll no ev (sq + 1) Q).1 r', List.append_assoc acc]
      rfl
    · have hstep : askStep no ev ⟨sq, fnL (P ++ r :: Q), fwL (P ++ r :: Q), acc⟩ r.id = ⟨sq, fnL ((P ++ [r]) ++ Q), fwL ((P ++ [r]) ++ Q), acc⟩ := by
        rw [← snoc_mid]
        unfold askStep
        rw [if_neg (by simp only [fn_at hm]; exact hn)]
      rw [List.map_cons, List.foldl_cons, hstep, ask_fold no ev Q _ _ _ h0 (by rw [← snoc_mid]; exact hd)]
      have ea : askAll no ev sq (r :: Q) = (r :: (askAll no ev sq Q).1, (askAll no ev sq Q).2.1, (askAll no ev sq Q).2.2) := if_neg hn
      rw [ea]
      simp only
      rw [snoc_mid P (askAll no ev sq Q).1 r]
/-- who is waited for. -/
def waitsOf (L : List Pr) : List (Int × Int) := (L.filter fun r => decide (0 < r.sq)).map fun r => (r.id, r.sq)
theorem wait_fold (sq : Int) (L : List Pr) (hL : Dist L) : ∀ (Q P : List Pr) (acc : List (Int × Int)), P ++ Q = L →
    (Q.map Pr.id).foldl waitStep ⟨sq, fnL L, fwL L, acc⟩ = ⟨sq, fnL L, fwL L, acc ++ waitsOf Q⟩
  | [], P, acc, _ => by simp [waitsOf]
  | r :: Q, P, acc, e => by
    have hm := dist_mid (e ▸ hL)
    have hw : fwL L r.id = waitOf r := by rw [← e]; exact fw_at hm
    have hstep : waitStep ⟨sq, fnL L, fwL L, acc⟩ r.id = ⟨sq, fnL L, fwL L, acc ++ (if 0 < r.sq then [(r.id, r.sq)] else [])⟩ := by
      unfold waitStep
      simp only [hw]
      by_cases hs : 0 < r.sq
      · simp only [waitOf, if_pos hs]
      · simp only [waitOf, if_neg hs, List.append_nil]
    rw [List.map_cons, List.foldl_cons, hstep, wait_fold sq L hL Q (P ++ [r]) _ (by rw [← snoc_mid]; exact e), List.append_assoc]
    congr 2
    unfold waitsOf
    by_cases hs : 0 < r.sq
    · rw [List.filter_cons_of_pos (by simpa using hs), if_pos hs]; rfl
    · rw [List.filter_cons_of_neg (by simpa using hs), if_neg hs]; rfl
end Go.Proofs.Ytejgekoinbdhjaa
