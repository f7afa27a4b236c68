/- timer: heaps, in plain terms: what is popped is the least; all that is armed stays in the heap. -/
import Derived.Test.YtejgekoinbdhjaaTiG
namespace Go.Proofs.Ytejgekoinbdhjaa
set_option linter.unusedVariables false
open Go Go.RowKit

/-- the order of slots. -/
def leS (a b : Slo) : Prop := a.ex < b.ex ∨ (a.ex = b.ex ∧ a.od ≤ b.od)
theorem leS_refl (a : Slo) : leS a a := .inr ⟨rfl, Int.le_refl _⟩
theorem leS_trans {a b c : Slo} (h : leS a b) (k : leS b c) : leS a c := by unfold leS at *; omega
theorem less_yes {a b : Slo} (h : lessT a b = true) : leS a b := by
  unfold lessT at h; simp at h; unfold leS; omega
theorem less_no {a b : Slo} (h : ¬ lessT a b = true) : leS b a := by
  unfold lessT at h; simp at h; unfold leS; omega
/-- a slot by its place. -/
def atS (H : List Slo) (i : Nat) : Slo := H.getD i ⟨0, 0, 0⟩
theorem atS_some {H : List Slo} {i : Nat} (h : i < H.length) : H[i]? = some (atS H i) := by
  unfold atS; rw [List.getD_eq_getElem?_getD, List.getElem?_eq_getElem h]; rfl
theorem atS_set (H : List Slo) (i j : Nat) (x : Slo) (h : i < H.length) : atS (H.set i x) j = if j = i then x else atS H j := by
  unfold atS
  rw [List.getD_eq_getElem?_getD, List.getElem?_set, List.getD_eq_getElem?_getD]
  by_cases e : i = j
  · subst e; simp [h]
  · simp [e, Ne.symm e]
theorem atS_swap {H : List Slo} {i j : Nat} (hi : i < H.length) (hj : j < H.length) (k : Nat) : atS (swapL H i j) k = if k = j then atS H i else if k = i then atS H j else atS H k := by
  rw [swapL_get (atS_some hi) (atS_some hj), atS_set _ _ _ _ (by simpa using hj), atS_set _ _ _ _ hi]
/-- a heap from lo on, but for what stands at k. -/
def HeapD (lo k : Nat) (H : List Slo) : Prop :=
  (∀ i, 0 < i → i < H.length → lo ≤ (i - 1) / 2 → (i - 1) / 2 ≠ k → leS (atS H ((i - 1) / 2)) (atS H i)) ∧
  (∀ c, 0 < c → c < H.length → (c - 1) / 2 = k → 0 < k → lo ≤ (k - 1) / 2 → leS (atS H ((k - 1) / 2)) (atS H c))
def HeapL (lo : Nat) (H : List Slo) : Prop := ∀ i, 0 < i → i < H.length → lo ≤ (i - 1) / 2 → leS (atS H ((i - 1) / 2)) (atS H i)
/-- where the first of a slot and its kids stands. -/
theorem kid_spec {H : List Slo} {q kid : Nat} (hq : q < H.length) : (kidL H q kid = q ∨ (kidL H q kid = kid ∧ kid < H.length)) ∧ leS (atS H (kidL H q kid)) (atS H q) ∧ (kid < H.length → leS (atS H (kidL H q kid)) (atS H kid)) := by
  by_cases hk : kid < H.length
  · rw [kidL_in (atS_some hk) (atS_some hq)]
    split
    · rename_i h
      exact ⟨.inr ⟨rfl, hk⟩, less_yes h, fun _ => leS_refl _⟩
    · rename_i h
      exact ⟨.inl rfl, leS_refl _, fun _ => less_no h⟩
  · rw [kidL_out (by omega)]
    exact ⟨.inl rfl, leS_refl _, fun h => absurd h hk⟩
theorem first_spec {H : List Slo} {k : Nat} (hk : k < H.length) :
    (firstM H k 2 = k ∨ (firstM H k 2 = 2 * k + 1 ∨ firstM H k 2 = 2 * k + 2) ∧ firstM H k 2 < H.length) ∧ leS (atS H (firstM H k 2)) (atS H k) ∧
    (∀ c, 0 < c → c < H.length → (c - 1) / 2 = k → leS (atS H (firstM H k 2)) (atS H c)) := by
  obtain ⟨a1, a2, a3⟩ := kid_spec (H := H) (q := k) (kid := 2 * k + 1) hk
  have e1 : firstM H k 1 = kidL H k (2 * k + 1) := rfl
  have e2 : firstM H k 2 = kidL H (kidL H k (2 * k + 1)) (2 * k + 2) := rfl
  have hq : kidL H k (2 * k + 1) < H.length := by rcases a1 with h | ⟨h, h2⟩ <;> omega
  obtain ⟨b1, b2, b3⟩ := kid_spec (H := H) (q := kidL H k (2 * k + 1)) (kid := 2 * k + 2) hq
  rw [e2]
  refine ⟨?_, leS_trans b2 a2, ?_⟩
  · omega
  · intro c h0 hc hp
    have : c = 2 * k + 1 ∨ c = 2 * k + 2 := by omega
    rcases this with rfl | rfl
    · exact leS_trans b2 (a3 hc)
    · exact b3 hc
theorem down_heap : ∀ (f : Nat) (lo k : Nat) (H : List Slo), H.length ≤ f + k → HeapD lo k H → HeapL lo (downL f H k)
  | 0, lo, k, H, hf, h => by
    intro i h0 hi hlo
    rw [downL] at *
    refine h.1 i h0 hi hlo (by omega)
  | f + 1, lo, k, H, hf, h => by
    by_cases hk : k < H.length
    · obtain ⟨a1, a2, a3⟩ := first_spec hk
      rw [downL]
      split
      · rename_i e
        rw [e] at a3
        intro i h0 hi hlo
        by_cases hp : (i - 1) / 2 = k
        · rw [hp]; exact a3 i h0 hi hp
        · exact h.1 i h0 hi hlo hp
      · rename_i e
        obtain ⟨q, hq⟩ : ∃ q, q = firstM H k 2 := ⟨_, rfl⟩
        rw [← hq] at a1 a2 a3 e ⊢
        have hql : q < H.length := by omega
        have hqk : k < q := by omega
        refine down_heap f lo q _ (by rw [swapL_len]; omega) ⟨?_, ?_⟩
        · intro i h0 hi hlo hp
          rw [swapL_len] at hi
          rw [atS_swap hk hql, atS_swap hk hql, if_neg hp]
          by_cases i1 : i = q
          · have : (i - 1) / 2 = k := by omega
            rw [if_pos this, if_pos i1]; exact a2
          · rw [if_neg i1]
            by_cases i2 : i = k
            · rw [if_neg (by omega), if_pos i2, i2]
              exact h.2 q (by omega) hql (by omega) (by omega) (by rw [← i2]; exact hlo)
            · rw [if_neg i2]
              by_cases i3 : (i - 1) / 2 = k
              · rw [if_pos i3]; exact a3 i h0 hi i3
              · rw [if_neg i3]; exact h.1 i h0 hi hlo i3
        · intro c h0 hc hp hq0 hlo
          rw [swapL_len] at hc
          have e1 : (q - 1) / 2 = k := by omega
          rw [atS_swap hk hql, atS_swap hk hql, if_neg (by omega), if_pos e1, if_neg (by omega), if_neg (by omega), ← hp]
          exact h.1 c h0 hc (by omega) (by omega)
    · have e : firstM H k 2 = k := by
        show kidL H (kidL H k (2 * k + 1)) (2 * k + 2) = k
        rw [kidL_out (q := k) (by omega), kidL_out (by omega)]
      rw [downL, if_pos e]
      intro i h0 hi hlo
      exact h.1 i h0 hi hlo (by omega)
theorem swap_mem {H : List Slo} {i j : Nat} (s : Slo) : s ∈ swapL H i j ↔ s ∈ H := by
  have hsw : ∀ (H : List Slo) i j, ∀ s ∈ swapL H i j, s ∈ H := by
    intro H i j s hs
    unfold swapL at hs
    split at hs
    · rename_i x y hx hy
      rcases List.mem_or_eq_of_mem_set hs with hs | rfl
      · rcases List.mem_or_eq_of_mem_set hs with hs | rfl
        · exact hs
        · exact List.mem_of_getElem? hy
      · exact List.mem_of_getElem? hx
    · exact hs
  refine ⟨hsw H i j s, fun hs => ?_⟩
  by_cases hi : i < H.length
  · by_cases hj : j < H.length
    · have e : swapL (swapL H i j) i j = H := by
        refine List.ext_getElem? fun k => ?_
        by_cases hk : k < H.length
        · have h2 : k < (swapL (swapL H i j) i j).length := by rw [swapL_len, swapL_len]; exact hk
          rw [atS_some hk, atS_some h2, atS_swap (by rw [swapL_len]; exact hi) (by rw [swapL_len]; exact hj), atS_swap hi hj, atS_swap hi hj, atS_swap hi hj]
          by_cases k1 : k = j
          · rw [if_pos k1, k1]
            by_cases q : i = j
            · rw [if_pos q, q]
            · rw [if_neg q, if_pos rfl]
          · rw [if_neg k1, if_neg k1]
            by_cases k2 : k = i
            · rw [if_pos k2, if_pos rfl, k2]
            · rw [if_neg k2, if_neg k2]
        · rw [List.getElem?_eq_none (by rw [swapL_len, swapL_len]; omega), List.getElem?_eq_none (by omega)]
      rw [← e] at hs
      exact hsw _ _ _ _ hs
    · unfold swapL
      rw [List.getElem?_eq_none (l := H) (i := j) (by omega)]
      split
      · rename_i q; cases q
      · exact hs
  · unfold swapL
    rw [List.getElem?_eq_none (l := H) (i := i) (by omega)]
    exact hs
theorem down_mem : ∀ (f : Nat) (H : List Slo) (k : Nat) (s : Slo), s ∈ downL f H k ↔ s ∈ H
  | 0, _, _, _ => Iff.rfl
  | f + 1, H, k, s => by
    rw [downL]
    split
    · exact Iff.rfl
    · rw [down_mem f, swap_mem]
theorem up_mem : ∀ (f : Nat) (H : List Slo) (k : Nat) (s : Slo), s ∈ upL f H k ↔ s ∈ H
  | 0, _, _, _ => Iff.rfl
  | f + 1, H, k, s => by
    rw [upL]
    split
    · split
      · rw [up_mem f, swap_mem]
      · exact Iff.rfl
    · exact Iff.rfl
theorem upL_len : ∀ (f : Nat) (H : List Slo) (k : Nat), (upL f H k).length = H.length
  | 0, _, _ => rfl
  | f + 1, H, k => by
    rw [upL]
    split
    · split
      · rw [upL_len f, swapL_len]
      · rfl
    · rfl
/-- a heap but for what stands at k, which may be less than what is above it. -/
def HeapU (k : Nat) (H : List Slo) : Prop :=
  (∀ i, 0 < i → i < H.length → i ≠ k → leS (atS H ((i - 1) / 2)) (atS H i)) ∧
  (∀ c, 0 < c → c < H.length → (c - 1) / 2 = k → 0 < k → leS (atS H ((k - 1) / 2)) (atS H c))
theorem up_heap : ∀ (f k : Nat) (H : List Slo), k ≤ f → k < H.length → HeapU k H → HeapL 0 (upL f H k)
  | 0, k, H, hf, hk, h => by
    intro i h0 hi hlo
    exact h.1 i h0 hi (by omega)
  | f + 1, k, H, hf, hk, h => by
    rw [upL, atS_some hk, atS_some (show (k - 1) / 2 < H.length by omega)]
    simp only
    by_cases hc : 0 < k ∧ lessT (atS H k) (atS H ((k - 1) / 2)) = true
    · rw [if_pos hc]
      obtain ⟨h0, hl⟩ := hc
      obtain ⟨p, hp⟩ : ∃ p, p = (k - 1) / 2 := ⟨_, rfl⟩
      rw [← hp] at hl ⊢
      have hpl : p < H.length := by omega
      have hle := less_yes hl
      refine up_heap f p _ (by omega) (by rw [swapL_len]; exact hpl) ⟨?_, ?_⟩
      · intro i i0 hi hip
        rw [swapL_len] at hi
        rw [atS_swap hk hpl, atS_swap hk hpl, if_neg hip]
        by_cases i1 : i = k
        · rw [i1, if_pos hp.symm, if_pos rfl]; exact hle
        · rw [if_neg i1]
          by_cases i2 : (i - 1) / 2 = p
          · rw [if_pos i2]
            refine leS_trans hle ?_
            rw [← i2]; exact h.1 i i0 hi i1
          · rw [if_neg i2]
            by_cases i3 : (i - 1) / 2 = k
            · rw [if_pos i3, hp]; exact h.2 i i0 hi i3 h0
            · rw [if_neg i3]; exact h.1 i i0 hi i1
      · intro c c0 hc hcp p0
        rw [swapL_len] at hc
        rw [atS_swap hk hpl, atS_swap hk hpl, if_neg (by omega), if_neg (by omega), if_neg (by omega)]
        have hpp := h.1 p p0 hpl (by omega)
        by_cases c1 : c = k
        · rw [if_pos c1]; exact hpp
        · rw [if_neg c1]
          refine leS_trans hpp ?_
          rw [← hcp]; exact h.1 c c0 hc c1
    · rw [if_neg hc]
      intro i i0 hi _
      by_cases ik : i = k
      · rw [ik]
        exact less_no fun q => hc ⟨by omega, q⟩
      · exact h.1 i i0 hi ik
theorem atS_app {H : List Slo} {e : Slo} {i : Nat} (h : i < H.length) : atS (H ++ [e]) i = atS H i := by
  unfold atS; rw [List.getD_eq_getElem?_getD, List.getElem?_append_left h, List.getD_eq_getElem?_getD]
theorem arm_heap {H : List Slo} (e : Slo) (h : HeapL 0 H) : HeapL 0 (upL H.length (H ++ [e]) H.length) := by
  refine up_heap _ _ _ (Nat.le_refl _) (by simp) ⟨?_, ?_⟩
  · intro i i0 hi hne
    have : i < H.length := by simp at hi; omega
    rw [atS_app this, atS_app (by omega)]
    exact h i i0 this (by omega)
  · intro c c0 hc hcp _
    simp at hc
    omega
theorem atS_take {H : List Slo} {n i : Nat} (h : i < n) : atS (H.take n) i = atS H i := by
  unfold atS; rw [List.getD_eq_getElem?_getD, List.getElem?_take_of_lt h, List.getD_eq_getElem?_getD]
theorem pop_eq {H : List Slo} (h0 : 0 < H.length) : popL H = downL (H.length - 1) ((H.set 0 (atS H (H.length - 1))).take (H.length - 1)) 0 := by
  unfold popL
  rw [atS_some (show H.length - 1 < H.length by omega)]
theorem pop_heap {H : List Slo} (h : HeapL 0 H) (h0 : 0 < H.length) : HeapL 0 (popL H) := by
  rw [pop_eq h0]
  refine down_heap _ 0 0 _ (by simp) ⟨?_, fun c _ _ _ q => by omega⟩
  intro i i0 hi _ hp
  simp at hi
  rw [atS_take (by omega), atS_take (by omega), atS_set _ _ _ _ h0, atS_set _ _ _ _ h0, if_neg hp, if_neg (by omega)]
  exact h i i0 (by omega) (by omega)
theorem pop_keeps {H : List Slo} (h0 : 0 < H.length) {s : Slo} (hs : s ∈ H) (hne : s ≠ atS H 0) : s ∈ popL H := by
  rw [pop_eq h0, down_mem]
  obtain ⟨i, hi⟩ := List.getElem?_of_mem hs
  have hil := (List.getElem?_eq_some_iff.1 hi).1
  have e : s = atS H i := by rw [atS_some hil] at hi; injection hi with hi; exact hi.symm
  have hi0 : i ≠ 0 := fun q => hne (by rw [e, q])
  have hlen : 1 < H.length := by omega
  have key : ∀ j, j < H.length - 1 → atS ((H.set 0 (atS H (H.length - 1))).take (H.length - 1)) j ∈ (H.set 0 (atS H (H.length - 1))).take (H.length - 1) := fun j hj => by
    have := atS_some (H := (H.set 0 (atS H (H.length - 1))).take (H.length - 1)) (i := j) (by simp; omega)
    exact List.mem_of_getElem? this
  by_cases hl : i = H.length - 1
  · have := key 0 (by omega)
    rw [atS_take (by omega), atS_set _ _ _ _ h0, if_pos rfl] at this
    rw [show atS H (H.length - 1) = s by rw [e, hl]] at this ⊢
    exact this
  · have := key i (by omega)
    rw [atS_take (by omega), atS_set _ _ _ _ h0, if_neg hi0, ← e] at this
    exact this
theorem heap_min {H : List Slo} (h : HeapL 0 H) : ∀ i, i < H.length → leS (atS H 0) (atS H i) := by
  intro i
  induction i using Nat.strongRecOn with
  | ind i ih =>
    intro hi
    by_cases h0 : i = 0
    · rw [h0]; exact leS_refl _
    · exact leS_trans (ih ((i - 1) / 2) (by omega) (by omega)) (h i (by omega) hi (by omega))
theorem heap_least {H : List Slo} (h : HeapL 0 H) {s : Slo} (hs : s ∈ H) : leS (atS H 0) s := by
  obtain ⟨i, hi⟩ := List.getElem?_of_mem hs
  have hil := (List.getElem?_eq_some_iff.1 hi).1
  rw [atS_some hil] at hi; injection hi with hi
  rw [← hi]; exact heap_min h i hil
/-- a heap that holds all that is armed. -/
def Held (A H : List Slo) : Prop := HeapL 0 H ∧ ∀ a ∈ A, a ∈ H
theorem fresh_held : ∀ (f : Nat) (A H : List Slo), H.length ≤ f → Held A H → Held A (freshL f A H) ∧ (freshL f A H = [] ∧ A = [] ∨ 0 < (freshL f A H).length ∧ atS (freshL f A H) 0 ∈ A)
  | f, A, [], hf, h => by
    have e : freshL f A [] = [] := by cases f <;> rfl
    rw [e]
    refine ⟨h, .inl ⟨rfl, ?_⟩⟩
    cases A with
    | nil => rfl
    | cons a A => exact absurd (h.2 a (.head _)) (by simp)
  | 0, A, x :: H, hf, h => by simp at hf
  | f + 1, A, x :: H, hf, h => by
    rw [freshL]
    simp only [List.getElem?_cons_zero]
    by_cases hx : x ∈ A
    · rw [if_pos hx]
      exact ⟨h, .inr ⟨by simp, hx⟩⟩
    · rw [if_neg hx]
      refine fresh_held f A _ (by rw [popL_len (by simp)]; simpa using hf) ⟨pop_heap h.1 (by simp), fun a ha => pop_keeps (by simp) (h.2 a ha) fun e => hx ?_⟩
      have : atS (x :: H) 0 = x := rfl
      rw [← this, ← e]; exact ha
end Go.Proofs.Ytejgekoinbdhjaa
