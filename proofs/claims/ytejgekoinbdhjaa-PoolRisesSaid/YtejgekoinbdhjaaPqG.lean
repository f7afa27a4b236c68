/- pool: plain laws for PoolRises. -/
import Derived.Test.YtejgekoinbdhjaaPqF
namespace Go.Proofs.Ytejgekoinbdhjaa
set_option linter.unusedVariables false
open Go Go.RowKit Go.Maps

theorem quo_pos {h t p : Int} (q : quoB h t p = true) : 0 < h := by
  unfold quoB at q; simp at q; exact q.2.1
theorem quo_zero (t p : Int) : quoB 0 t p = false := by unfold quoB; simp
theorem quo_mono {h h' t p : Int} (q : quoB h t p = true) (hh : h ≤ h') (hb : h' ≤ 1000000) : quoB h' t p = true := by
  unfold quoB goodQ at *
  simp at *
  omega
def wv (so : Mem → Bool) (m : Mem) : Int := if so m then m.wt else 0
theorem sumW_set (so : Mem → Bool) {L : List Mem} {k : Nat} {m m' : Mem} (h : L[k]? = some m) : sumW so (L.set k m') + wv so m = sumW so L + wv so m' := by
  induction L generalizing k with
  | nil => simp at h
  | cons a L ih =>
    cases k with
    | zero =>
      simp at h; subst h
      simp only [List.set_cons_zero, sumW, wv]; omega
    | succ k =>
      have := ih (k := k) (by simpa using h)
      simp only [List.set_cons_succ, sumW]; omega
theorem use_ne {L : List Mem} (hw : ∀ m ∈ L, 0 ≤ m.wt) (h : 0 < sumW soUp L) : selB soUse L ≠ [] := by
  intro he
  have hz : ∀ D : List Mem, (∀ m ∈ D, 0 ≤ m.wt) → (∀ m ∈ D, soUse m = false) → sumW soUp D = 0 := by
    intro D
    induction D with
    | nil => intro _ _; rfl
    | cons a D ih =>
      intro h1 h2
      have ha := h2 a List.mem_cons_self
      have hwa := h1 a List.mem_cons_self
      rw [sumW, ih (fun m hm => h1 m (List.mem_cons_of_mem _ hm)) fun m hm => h2 m (List.mem_cons_of_mem _ hm)]
      unfold soUse at ha
      cases hu : soUp a
      · simp
      · rw [hu] at ha; simp at ha; simp; omega
  have hno : ∀ m ∈ L, soUse m = false := by
    intro m hm
    cases hu : soUse m
    · rfl
    · have : bkOf m ∈ selB soUse L := List.mem_map.2 ⟨m, List.mem_filter.2 ⟨hm, hu⟩, rfl⟩
      rw [he] at this; cases this
  have := hz L hw hno
  omega
/-- whoever is marked up, or drains no more: the sum of those that serve does not fall, that of all is as it was. -/
theorem rise_set {L : List Mem} {k : Nat} {m m' : Mem} (h : L[k]? = some m) (hw : 0 ≤ m.wt) (he : m'.wt = m.wt) (hs : soUp m = true → soUp m' = true) : sumW soUp L ≤ sumW soUp (L.set k m') ∧ sumW soAll (L.set k m') = sumW soAll L := by
  have h1 := sumW_set soUp (m' := m') h
  have h2 := sumW_set soAll (m' := m') h
  unfold wv at h1 h2
  have ha : ∀ x, soAll x = true := fun _ => rfl
  rw [ha, ha, he] at h2
  refine ⟨?_, by simp at h2; omega⟩
  rw [he] at h1
  cases hm : soUp m
  · rw [hm] at h1
    cases hm' : soUp m' <;> rw [hm'] at h1 <;> simp at h1 <;> omega
  · rw [hm, hs hm] at h1; simp at h1; omega
theorem rise_mark (L : List Mem) (id : Int) (hw : ∀ m ∈ L, 0 ≤ m.wt) : sumW soUp L ≤ sumW soUp (markR L id true).2 ∧ sumW soAll (markR L id true).2 = sumW soAll L := by
  unfold markR
  cases hf : findF L id with
  | none =>
    have e : ∀ x y z, setR L id x y z = (7, L) := fun x y z => by unfold setR; rw [hf]
    rw [e]; exact ⟨Int.le_refl _, rfl⟩
  | some k =>
    obtain ⟨m, hm, rfl⟩ := findF_get hf
    rw [getM_some hf hm, setR_some hf hm]
    refine rise_set hm (hw m (List.mem_of_getElem? hm)) rfl fun h => ?_
    unfold soUp at *; simp at *; exact h.2
theorem rise_drain (L : List Mem) (id : Int) (hw : ∀ m ∈ L, 0 ≤ m.wt) : sumW soUp L ≤ sumW soUp (drainR L id false).2 ∧ sumW soAll (drainR L id false).2 = sumW soAll L := by
  unfold drainR
  cases hf : findF L id with
  | none =>
    have e : ∀ x y z, setR L id x y z = (7, L) := fun x y z => by unfold setR; rw [hf]
    rw [e]; exact ⟨Int.le_refl _, rfl⟩
  | some k =>
    obtain ⟨m, hm, rfl⟩ := findF_get hf
    rw [getM_some hf hm, setR_some hf hm]
    refine rise_set hm (hw m (List.mem_of_getElem? hm)) rfl fun h => ?_
    unfold soUp at *; simp at *; exact h.1
theorem selB_all (L : List Mem) : selB soAll L = L.map bkOf := by
  unfold selB
  have : L.filter soAll = L := List.filter_eq_self.2 fun a _ => rfl
  rw [this]
theorem down_sum {L : List Mem} (h : ∀ m ∈ L, m.up = false) : sumW soUp L = 0 := by
  induction L with
  | nil => rfl
  | cons a L ih =>
    rw [sumW, ih fun m hm => h m (List.mem_cons_of_mem _ hm)]
    have := h a List.mem_cons_self
    unfold soUp; rw [this]; simp
theorem down_use {L : List Mem} (h : ∀ m ∈ L, m.up = false) : selB soUse L = [] := by
  unfold selB
  rw [List.filter_eq_nil_iff.2 fun a ha => ?_]
  · rfl
  · have := h a ha
    unfold soUse soUp; rw [this]; simp
/-- the k-th of sorted ones is found at its place. -/
theorem find_at {L : List Mem} (hs : ById L) {k : Nat} {m : Mem} (h : L[k]? = some m) : findF L m.id = some k := by
  refine findF_some h rfl fun j m' hj hm' => ?_
  obtain ⟨hj1, e1⟩ := List.getElem?_eq_some_iff.1 hm'
  obtain ⟨hk1, e2⟩ := List.getElem?_eq_some_iff.1 h
  have := List.pairwise_iff_getElem.1 hs j k hj1 hk1 hj
  rw [e1, e2] at this
  omega
/-- marked down: the k-th. -/
theorem mark_at {L : List Mem} (hs : ById L) {k : Nat} {m : Mem} (h : L[k]? = some m) : (markR L m.id false).2 = L.set k { m with up := false } := by
  unfold markR
  have hf := find_at hs h
  rw [getM_some hf h, setR_some hf h]
end Go.Proofs.Ytejgekoinbdhjaa
