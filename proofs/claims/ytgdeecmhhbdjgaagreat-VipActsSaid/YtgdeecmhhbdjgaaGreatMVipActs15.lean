import Derived.Test.YtgdeecmhhbdjgaaGreatMVipActs13
import Derived.Test.YtgdeecmhhbdjgaaGreatMVipActs11
/- pool: plain laws of the program's members and the document's rows. -/
namespace Go.Proofs.YtgdeecmhhbdjgaaGreat
set_option linter.unusedVariables false
open Go Go.RowKit Go.Maps

def addP (M : List Mem) (id ad wt : Int) : Int × List Mem :=
  if addOk id ad wt = false then (2, M) else match findF M id with
    | some _ => (13, M)
    | none => if 16 ≤ M.length then (6, M) else (0, M ++ [⟨id, ad, wt, false, false⟩])
def Rel (M L : List Mem) : Prop := L.Perm M ∧ ById L ∧ MemsOk M
theorem perm_at {α : Type} {l : List α} {k : Nat} {m : α} (h : l[k]? = some m) : l.Perm (m :: l.eraseIdx k) := by
  induction l generalizing k with
  | nil => simp at h
  | cons a l ih =>
    cases k with
    | zero => simp at h; subst h; exact List.Perm.refl _
    | succ k =>
      have := ih (k := k) (by simpa using h)
      exact ((List.Perm.cons a this).trans (List.Perm.swap _ _ _))
theorem perm_set {α : Type} {l : List α} {k : Nat} {m m' : α} (h : l[k]? = some m) : (l.set k m').Perm (m' :: l.eraseIdx k) := by
  induction l generalizing k with
  | nil => simp at h
  | cons a l ih =>
    cases k with
    | zero => exact List.Perm.refl _
    | succ k =>
      have := ih (k := k) (by simpa using h)
      exact ((List.Perm.cons a this).trans (List.Perm.swap _ _ _))
theorem perm_erase {α : Type} {l l' : List α} (hp : l.Perm l') {k k' : Nat} {m : α} (h : l[k]? = some m) (h' : l'[k']? = some m) : (l.eraseIdx k).Perm (l'.eraseIdx k') :=
  List.Perm.cons_inv (((perm_at h).symm.trans hp).trans (perm_at h'))
theorem byId_ids {L : List Mem} : ById L ↔ (L.map Mem.id).Pairwise (· < ·) := by
  unfold ById; rw [List.pairwise_map]
theorem byId_inj {L : List Mem} (h : ById L) {a b : Mem} (ha : a ∈ L) (hb : b ∈ L) (e : a.id = b.id) : a = b := by
  obtain ⟨i, hi, rfl⟩ := List.getElem_of_mem ha
  obtain ⟨j, hj, rfl⟩ := List.getElem_of_mem hb
  rcases Nat.lt_trichotomy i j with hij | rfl | hij
  · have := List.pairwise_iff_getElem.1 h i j hi hj hij
    omega
  · rfl
  · have := List.pairwise_iff_getElem.1 h j i hj hi hij
    omega
theorem rel_find {M L : List Mem} (h : Rel M L) (id : Int) : (findF M id = none ∧ findF L id = none) ∨ ∃ k j m, findF M id = some k ∧ findF L id = some j ∧ M[k]? = some m ∧ L[j]? = some m ∧ m.id = id := by
  cases hM : findF M id with
  | none =>
    refine .inl ⟨rfl, findF_none fun m hm => findF_no hM m (h.1.mem_iff.1 hm)⟩
  | some k =>
    obtain ⟨m, hm, he⟩ := findF_get hM
    have hmL : m ∈ L := h.1.mem_iff.2 (List.mem_of_getElem? hm)
    cases hL : findF L id with
    | none => exact absurd he (findF_no hL m hmL)
    | some j =>
      obtain ⟨m', hm', he'⟩ := findF_get hL
      have : m' = m := byId_inj h.2.1 (List.mem_of_getElem? hm') hmL (he'.trans he.symm)
      subst this
      exact .inr ⟨k, j, m', rfl, rfl, hm, hm', he⟩
theorem rel_ok {M L : List Mem} (h : Rel M L) : MemsOk L := ⟨by rw [h.1.length_eq]; exact h.2.2.1, fun m hm => h.2.2.2 m (h.1.mem_iff.1 hm)⟩
theorem rel_set {M L : List Mem} (h : Rel M L) {k j : Nat} {m m' : Mem} (hk : M[k]? = some m) (hj : L[j]? = some m) (he : m'.id = m.id) (hw : 0 ≤ m'.wt ∧ m'.wt ≤ 100) : Rel (M.set k m') (L.set j m') := by
  refine ⟨(perm_set hj).trans (((perm_erase h.1 hj hk).cons m').trans (perm_set hk).symm), ?_, by rw [List.length_set]; exact h.2.2.1, fun x hx => ?_⟩
  · rw [byId_ids, List.map_set]
    have e : (L.map Mem.id).set j m'.id = L.map Mem.id := by
      apply List.ext_getElem?
      intro i
      rw [List.getElem?_set]
      split
      · rename_i hij
        subst hij
        rw [List.getElem?_map, hj, he]
        simp [(List.getElem?_eq_some_iff.1 hj).1]
      · rfl
    rw [e]
    exact byId_ids.1 h.2.1
  · rcases List.mem_or_eq_of_mem_set hx with hx | rfl
    · exact h.2.2.2 x hx
    · exact ⟨by rw [he]; exact (h.2.2.2 m (List.mem_of_getElem? hk)).1, hw⟩
theorem rel_setR {M L : List Mem} (h : Rel M L) (id : Int) (up dr : Bool) (wt : Int) (hw : (findF M id).isSome = true → 0 ≤ wt ∧ wt ≤ 100) : (setR M id up dr wt).1 = (setR L id up dr wt).1 ∧ Rel (setR M id up dr wt).2 (setR L id up dr wt).2 := by
  rcases rel_find h id with ⟨h1, h2⟩ | ⟨k, j, m, h1, h2, h3, h4, rfl⟩
  · have e1 : setR M id up dr wt = (7, M) := by unfold setR; rw [h1]
    have e2 : setR L id up dr wt = (7, L) := by unfold setR; rw [h2]
    rw [e1, e2]; exact ⟨rfl, h⟩
  · rw [setR_some h1 h3, setR_some h2 h4]
    exact ⟨rfl, rel_set h h3 h4 rfl (hw (by rw [h1]; rfl))⟩
theorem rel_getM {M L : List Mem} (h : Rel M L) (id : Int) : getM M id = getM L id := by
  rcases rel_find h id with ⟨h1, h2⟩ | ⟨k, j, m, h1, h2, h3, h4, _⟩
  · rw [getM_none h1, getM_none h2]
  · rw [getM_some h1 h3, getM_some h2 h4]
theorem getM_wt {M L : List Mem} (h : Rel M L) (id : Int) : 0 ≤ (getM M id).wt ∧ (getM M id).wt ≤ 100 := by
  rcases rel_find h id with ⟨h1, h2⟩ | ⟨k, j, m, h1, h2, h3, h4, _⟩
  · rw [getM_none h1]; decide
  · rw [getM_some h1 h3]; exact (h.2.2.2 m (List.mem_of_getElem? h3)).2
theorem rel_mark {M L : List Mem} (h : Rel M L) (id : Int) (u : Bool) : (markR M id u).1 = (markR L id u).1 ∧ Rel (markR M id u).2 (markR L id u).2 := by
  unfold markR
  rw [← rel_getM h]
  exact rel_setR h id _ _ _ fun _ => getM_wt h id
theorem rel_drain {M L : List Mem} (h : Rel M L) (id : Int) (u : Bool) : (drainR M id u).1 = (drainR L id u).1 ∧ Rel (drainR M id u).2 (drainR L id u).2 := by
  unfold drainR
  rw [← rel_getM h]
  exact rel_setR h id _ _ _ fun _ => getM_wt h id
theorem findZ_some {L : List Mem} {id : Int} {k : Nat} (h : findF L id = some k) : findZ L id = (k : Int) := by unfold findZ; rw [h]
theorem findZ_none {L : List Mem} {id : Int} (h : findF L id = none) : findZ L id = -1 := by unfold findZ; rw [h]
theorem rel_weigh {M L : List Mem} (h : Rel M L) (id u : Int) : (weighR M id u).1 = (weighR L id u).1 ∧ Rel (weighR M id u).2 (weighR L id u).2 := by
  have hd : decide (0 ≤ findZ M id) = decide (0 ≤ findZ L id) := by
    rcases rel_find h id with ⟨h1, h2⟩ | ⟨k, j, m, h1, h2, _⟩
    · rw [findZ_none h1, findZ_none h2]
    · rw [findZ_some h1, findZ_some h2]; simp
  unfold weighR
  rw [← rel_getM h, ← hd]
  by_cases hb : (decide (0 ≤ findZ M id) && !wtB u) = true
  · rw [if_pos hb, if_pos hb]; exact ⟨rfl, h⟩
  · rw [if_neg hb, if_neg hb]
    refine rel_setR h id _ _ _ fun hs => ?_
    obtain ⟨k, hk⟩ := Option.isSome_iff_exists.1 hs
    rw [findZ_some hk] at hb
    unfold wtB at hb
    simp at hb
    omega
theorem insM_perm (L : List Mem) (m : Mem) : (insM L m).Perm (m :: L) := by
  unfold insM
  have : (L.takeWhile (fun x => decide (x.id < m.id)) ++ m :: L.dropWhile (fun x => decide (x.id < m.id))).Perm (m :: (L.takeWhile (fun x => decide (x.id < m.id)) ++ L.dropWhile (fun x => decide (x.id < m.id)))) := List.perm_middle
  rw [List.takeWhile_append_dropWhile] at this
  exact this
theorem insM_byId {L : List Mem} {m : Mem} (h : ById L) (hn : ∀ x ∈ L, x.id ≠ m.id) : ById (insM L m) := by
  induction L with
  | nil => simp [insM, ById]
  | cons a L ih =>
    unfold ById at h
    rw [List.pairwise_cons] at h
    by_cases ha : a.id < m.id
    · have e : insM (a :: L) m = a :: insM L m := by
        unfold insM
        rw [List.takeWhile_cons_of_pos (by simpa using ha), List.dropWhile_cons_of_pos (by simpa using ha), List.cons_append]
      rw [e]
      unfold ById
      rw [List.pairwise_cons]
      refine ⟨fun x hx => ?_, ih h.2 fun x hx => hn x (List.mem_cons_of_mem _ hx)⟩
      rcases List.mem_cons.1 ((insM_perm L m).mem_iff.1 hx) with rfl | hx
      · exact ha
      · exact h.1 x hx
    · have e : insM (a :: L) m = m :: a :: L := by
        unfold insM
        rw [List.takeWhile_cons_of_neg (by simpa using ha), List.dropWhile_cons_of_neg (by simpa using ha), List.nil_append]
      rw [e]
      have hne := hn a List.mem_cons_self
      unfold ById
      rw [List.pairwise_cons, List.pairwise_cons]
      refine ⟨fun x hx => ?_, h⟩
      rcases List.mem_cons.1 hx with rfl | hx
      · omega
      · have := h.1 x hx; omega
theorem rel_add {M L : List Mem} (h : Rel M L) (id ad wt : Int) : (addP M id ad wt).1 = (addR L id ad wt).1 ∧ Rel (addP M id ad wt).2 (addR L id ad wt).2 := by
  unfold addP addR
  by_cases hok : addOk id ad wt = false
  · rw [if_pos hok, if_pos hok]; exact ⟨rfl, h⟩
  rw [if_neg hok, if_neg hok]
  rcases rel_find h id with ⟨h1, h2⟩ | ⟨k, j, m, h1, h2, h3, h4, _⟩
  · rw [h1, h2]
    simp only [h.1.length_eq]
    by_cases hf : 16 ≤ M.length
    · rw [if_pos hf, if_pos hf]; exact ⟨rfl, h⟩
    · rw [if_neg hf, if_neg hf]
      refine ⟨rfl, (insM_perm L _).trans ((h.1.cons _).trans (List.perm_append_singleton _ M).symm), insM_byId h.2.1 fun x hx => findF_no h2 x hx, by simp; omega, fun x hx => ?_⟩
      rcases List.mem_append.1 hx with hx | hx
      · exact h.2.2.2 x hx
      · obtain rfl : x = _ := List.mem_singleton.1 hx
        unfold addOk wtB at hok
        simp at hok
        show (0 ≤ id ∧ id ≤ 255) ∧ (0 ≤ wt ∧ wt ≤ 100)
        omega
  · rw [h1, h2]; exact ⟨rfl, h⟩
theorem rel_sum {M L : List Mem} (h : Rel M L) (so : Mem → Bool) : sumW so M = sumW so L := sumW_perm so h.1.symm
end Go.Proofs.YtgdeecmhhbdjgaaGreat

/- pool: the program's functions, each in one word. -/
namespace Go.Proofs.YtgdeecmhhbdjgaaGreat
set_option linter.unusedVariables false
open Go Go.RowKit Go.Maps

section
variable (w : World) (g b : Nat) (pc : Int) (M : List Mem) (h : PoolIn w g b pc M)
include h
theorem pAddS (id ad wt : Int) : Calls Tryz.prog 108 #[.pointer (some ⟨g, 0, none⟩), .agg #[.int .i64 id, .int .u32 ad, .int .i64 wt]] w fun e w' => e = .returned (.int .i64 (addP M id ad wt).1) ∧ PoolIn w' g b pc (addP M id ad wt).2 ∧ w.grownBy w' (some b) := by
  unfold addP
  by_cases hok : addOk id ad wt = false
  · rw [if_pos hok]
    exact (addNo_any w g b pc M id ad wt h hok).mono fun e w' q => ⟨q.1, h.nx q.2, grown_of_below q.2 (Nat.le_refl _) _⟩
  rw [if_neg hok]
  replace hok : addOk id ad wt = true := by simpa using hok
  cases hf : findF M id with
  | some k =>
    obtain ⟨m, hm, rfl⟩ := findF_get hf
    exact addThere w g b pc M m ad wt h hok (List.mem_of_getElem? hm)
  | none =>
    by_cases hl : 16 ≤ M.length
    · simp only [if_pos hl]
      exact addFull w g b pc M id ad wt h hok (findF_no hf) hl
    · simp only [if_neg hl]
      exact addNew w g b pc M id ad wt h hok (findF_no hf) (by omega)
variable (id : Int) (r0 : -9223372036854775808 ≤ id) (r1 : id ≤ 9223372036854775807)
include r0 r1
theorem pMarkS (u : Bool) : Calls Tryz.prog 87 #[.pointer (some ⟨g, 0, none⟩), .int .i64 id, .bool u] w fun e w' => e = .returned (.int .i64 (markR M id u).1) ∧ PoolIn w' g b pc (markR M id u).2 ∧ w.grownBy w' (some b) := by
  unfold markR
  cases hf : findF M id with
  | some k =>
    obtain ⟨m, hm, rfl⟩ := findF_get hf
    rw [getM_some hf hm, setR_some hf hm]
    exact pMark w g b pc M k m u h hm r0 r1
  | none =>
    have e : ∀ x y z, setR M id x y z = (7, M) := fun x y z => by unfold setR; rw [hf]
    rw [e]
    exact (pMarkNo w g b pc M id u h r0 r1 (findF_no hf)).mono fun e w' q => ⟨q.1, h.nx q.2, grown_of_below q.2 (Nat.le_refl _) _⟩
theorem pDrainS (u : Bool) : Calls Tryz.prog 94 #[.pointer (some ⟨g, 0, none⟩), .int .i64 id, .bool u] w fun e w' => e = .returned (.int .i64 (drainR M id u).1) ∧ PoolIn w' g b pc (drainR M id u).2 ∧ w.grownBy w' (some b) := by
  unfold drainR
  cases hf : findF M id with
  | some k =>
    obtain ⟨m, hm, rfl⟩ := findF_get hf
    rw [getM_some hf hm, setR_some hf hm]
    exact pDrain w g b pc M k m u h hm r0 r1
  | none =>
    have e : ∀ x y z, setR M id x y z = (7, M) := fun x y z => by unfold setR; rw [hf]
    rw [e]
    exact (pDrainNo w g b pc M id u h r0 r1 (findF_no hf)).mono fun e w' q => ⟨q.1, h.nx q.2, grown_of_below q.2 (Nat.le_refl _) _⟩
theorem pWeighS (u : Int) : Calls Tryz.prog 95 #[.pointer (some ⟨g, 0, none⟩), .int .i64 id, .int .i64 u] w fun e w' => e = .returned (.int .i64 (weighR M id u).1) ∧ PoolIn w' g b pc (weighR M id u).2 ∧ w.grownBy w' (some b) := by
  unfold weighR
  cases hf : findF M id with
  | some k =>
    obtain ⟨m, hm, rfl⟩ := findF_get hf
    rw [findZ_some hf]
    by_cases hw : wtB u = true
    · rw [if_neg (by rw [hw]; simp), getM_some hf hm, setR_some hf hm]
      exact pWeigh w g b pc M k m u h hm r0 r1 hw
    · have hw' : wtB u = false := by simpa using hw
      rw [if_pos (by rw [hw']; simp)]
      exact (pWeighBad w g b pc M m u h (List.mem_of_getElem? hm) r0 r1 hw').mono fun e w' q => ⟨q.1, h.nx q.2, grown_of_below q.2 (Nat.le_refl _) _⟩
  | none =>
    rw [findZ_none hf, if_neg (by simp)]
    have e : ∀ x y z, setR M id x y z = (7, M) := fun x y z => by unfold setR; rw [hf]
    rw [e]
    exact (pWeighNo w g b pc M id u h r0 r1 (findF_no hf)).mono fun e w' q => ⟨q.1, h.nx q.2, grown_of_below q.2 (Nat.le_refl _) _⟩
end
end Go.Proofs.YtgdeecmhhbdjgaaGreat
