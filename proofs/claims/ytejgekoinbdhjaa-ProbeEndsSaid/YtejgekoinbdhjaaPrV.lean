/- probe: plain laws of ProbeEnds: whom a tick asks and loses, when all are asked together. -/
import Derived.Test.YtejgekoinbdhjaaPrL
namespace Go.Proofs.Ytejgekoinbdhjaa
set_option linter.unusedVariables false
open Go Go.RowKit Go.Maps

/-- every row is asked next at N; one that is waited for was asked a round ahead, and its patience is not at its end. -/
def Okr (ev pa no N : Int) (r : Pr) : Prop := r.nx = N ∧ (0 < r.sq → r.at_ = N - ev ∧ no - r.at_ < pa)
/-- when each was asked last. -/
def lastF (L : List Pr) (ev N : Int) : Int → Option Int := fun id => if 1 < N ∧ id ∈ L.map Pr.id then some (N - ev) else none
theorem map_dist {L : List Pr} (h : Dist L) : (L.map Pr.id).Nodup := (dist_ids h).imp fun h => by omega
theorem find_map (f : Pr → Pr) (hf : ∀ r, (f r).id = r.id) (L : List Pr) (id : Int) : findP (L.map f) id = (findP L id).map f := by
  unfold findP
  rw [List.find?_map]
  congr 2
  funext r
  simp [hf]
theorem fw_row {L : List Pr} {r : Pr} (hd : Dist L) (hr : r ∈ L) : fwL L r.id = waitOf r := by unfold fwL; rw [findP_some hd hr]; rfl
theorem fw_no {L : List Pr} {id : Int} (h : id ∉ L.map Pr.id) : fwL L id = none := by
  unfold fwL
  rw [findP_none fun a ha e => h (List.mem_map.2 ⟨a, ha, e⟩)]
  rfl
theorem in_ids {L : List Pr} {id : Int} (h : id ∈ L.map Pr.id) : ∃ r ∈ L, r.id = id := by
  obtain ⟨r, h1, h2⟩ := List.mem_map.1 h
  exact ⟨r, h1, h2⟩
theorem lost_row {no pa : Int} {L : List Pr} {p : Int × Int} (hp : p ∈ lostOf no pa L) : ∃ r ∈ L, goneB no pa r = true ∧ p = (r.id, r.sq) := by
  unfold lostOf at hp
  obtain ⟨r, hr, rfl⟩ := List.mem_map.1 hp
  exact ⟨r, (List.mem_filter.1 hr).1, (List.mem_filter.1 hr).2, rfl⟩
theorem lost_nodup {no pa : Int} {L : List Pr} (hd : Dist L) : ((lostOf no pa L).map Prod.fst).Nodup := by
  have : (lostOf no pa L).map Prod.fst = (L.filter (goneB no pa)).map Pr.id := by unfold lostOf; rw [List.map_map]; rfl
  rw [this]
  exact List.Pairwise.sublist (List.filter_sublist.map _) (map_dist hd)
/-- the law's map of those who are waited for, behind the lost. -/
theorem lost_fw {no pa : Int} {L : List Pr} (hd : Dist L) {W : Int → Option (Int × Int)} (hW : ∀ id, W id = if id ∈ (lostOf (no + 1) pa L).map Prod.fst then none else fwL L id) : W = fwL (tick1 no pa L) := by
  funext id
  rw [hW]
  unfold tick1
  by_cases hid : id ∈ L.map Pr.id
  · obtain ⟨r, hr, rfl⟩ := in_ids hid
    have e : fwL (L.map (lostR (no + 1) pa)) r.id = waitOf (lostR (no + 1) pa r) := by
      unfold fwL
      rw [find_map _ (lostR_id _ _), findP_some hd hr]
      rfl
    rw [e, fw_row hd hr]
    unfold lostR
    cases hg : goneB (no + 1) pa r with
    | true =>
      rw [if_pos (List.mem_map.2 ⟨(r.id, r.sq), by unfold lostOf; exact List.mem_map.2 ⟨r, List.mem_filter.2 ⟨hr, hg⟩, rfl⟩, rfl⟩), if_pos rfl]
      unfold waitOf
      rw [if_neg (by show ¬ (0 : Int) < 0; omega)]
    | false =>
      rw [if_neg ?_, if_neg (by simp)]
      intro hm
      obtain ⟨p, hp, e2⟩ := List.mem_map.1 hm
      obtain ⟨s, hs, hgs, rfl⟩ := lost_row hp
      have : findP L r.id = some s := by rw [← show s.id = r.id from e2]; exact findP_some hd hs
      rw [findP_some hd hr] at this
      injection this with this
      subst this
      rw [hg] at hgs
      cases hgs
  · rw [fw_no hid, fw_no (by rw [List.map_map]; intro hm; exact hid (by obtain ⟨r, hr, e⟩ := List.mem_map.1 hm; exact List.mem_map.2 ⟨r, hr, by rw [← e]; exact (lostR_id _ _ r).symm⟩))]
    split <;> rfl
/-- one that is lost was asked just so long ago. -/
theorem lost_at {ev pa no N : Int} {L : List Pr} (hd : Dist L) (hok : ∀ r ∈ L, Okr ev pa no N r) {p : Int × Int} (hp : p ∈ lostOf (no + 1) pa L) :
    p.1 ∈ L.map Pr.id ∧ fwL L p.1 = some (p.2, no + 1 - pa) := by
  obtain ⟨r, hr, hg, rfl⟩ := lost_row hp
  unfold goneB at hg
  rw [decide_eq_true_eq] at hg
  have := (hok r hr).2 hg.1
  refine ⟨List.mem_map.2 ⟨r, hr, rfl⟩, ?_⟩
  simp only
  rw [fw_row hd hr]
  unfold waitOf
  rw [if_pos hg.1, show r.at_ = no + 1 - pa by omega]
theorem Okr.lost {ev pa no N : Int} {r : Pr} (h : Okr ev pa no N r) : Okr ev pa (no + 1) N (lostR (no + 1) pa r) := by
  unfold Okr at *
  unfold lostR
  cases hg : goneB (no + 1) pa r with
  | true => simp only [if_pos]; exact ⟨h.1, fun q => absurd q (by omega)⟩
  | false =>
    simp only [Bool.false_eq_true, if_false]
    unfold goneB at hg
    rw [decide_eq_false_iff_not] at hg
    exact ⟨h.1, fun q => ⟨(h.2 q).1, by omega⟩⟩
theorem ask_none {no ev : Int} : ∀ {L : List Pr} {sq : Int}, (∀ r ∈ L, r.nx ≠ no) → askAll no ev sq L = (L, sq, [])
  | [], _, _ => rfl
  | r :: L, sq, h => by
    unfold askAll
    rw [if_neg (h r (by simp)), ask_none fun a ha => h a (by simp [ha])]
theorem ask_all {no ev : Int} : ∀ {L : List Pr} {sq : Int}, 0 ≤ sq → (∀ r ∈ L, r.nx = no) → (askAll no ev sq L).2.2.map Prod.fst = L.map Pr.id ∧ (∀ r ∈ (askAll no ev sq L).1, r.nx = no + ev ∧ r.at_ = no ∧ 0 < r.sq ∧ (r.id, r.sq) ∈ (askAll no ev sq L).2.2) ∧ ∀ p ∈ (askAll no ev sq L).2.2, ∃ r ∈ (askAll no ev sq L).1, p = (r.id, r.sq)
  | [], _, _, _ => by simp [askAll]
  | r :: L, sq, h0, h => by
    obtain ⟨i1, i2, i3⟩ := ask_all (no := no) (ev := ev) (L := L) (sq := sq + 1) (by omega) fun a ha => h a (by simp [ha])
    unfold askAll
    rw [if_pos (h r (by simp))]
    simp only [List.map_cons]
    refine ⟨by rw [i1], ?_, ?_⟩
    · intro a ha
      rcases List.mem_cons.1 ha with rfl | ha
      · exact ⟨rfl, rfl, by show 0 < sq + 1; omega, List.mem_cons_self ..⟩
      · obtain ⟨q1, q2, q3, q4⟩ := i2 a ha
        exact ⟨q1, q2, q3, List.mem_cons_of_mem _ q4⟩
    · intro p hp
      rcases List.mem_cons.1 hp with rfl | hp
      · exact ⟨_, List.mem_cons_self .., rfl⟩
      · obtain ⟨a, ha, e⟩ := i3 p hp
        exact ⟨a, List.mem_cons_of_mem _ ha, e⟩
/-- what a tick's questions are like: B the questions, M0 the rows behind them, W0 and A0 the law's maps ahead of them. -/
structure AskH (ev now : Int) (B : List (Int × Int)) (M0 : List Pr) (W0 : Int → Option (Int × Int)) (A0 : Int → Option Int) : Prop where
  nd : (B.map Prod.fst).Nodup
  at_ : ∀ p ∈ B, W0 p.1 = none ∧ (∀ a, A0 p.1 = some a → 0 < a ∧ now - a = ev) ∧ fwL M0 p.1 = some (p.2, now)
  off : ∀ id, id ∉ B.map Prod.fst → W0 id = fwL M0 id
/-- what stands at the k-th question. -/
structure AskK (now : Int) (B : List (Int × Int)) (M0 : List Pr) (W0 : Int → Option (Int × Int)) (A0 : Int → Option Int) (k : Nat) (M : List Pr) (W : Int → Option (Int × Int)) (A : Int → Option Int) : Prop where
  out : ∀ id, id ∉ (B.take k).map Prod.fst → W id = W0 id ∧ A id = A0 id ∧ fwL M id = fwL M0 id
  inn : ∀ id, id ∈ (B.take k).map Prod.fst → W id = fwL M id ∧ A id = some now
  ids : M.map Pr.id = M0.map Pr.id
theorem take_fst {B : List (Int × Int)} {k : Nat} {p : Int × Int} (hk : B[k]? = some p) : (B.take (k + 1)).map Prod.fst = (B.take k).map Prod.fst ++ [p.1] := by
  rw [List.take_add_one, hk]
  simp
theorem fresh_fst {B : List (Int × Int)} (hn : (B.map Prod.fst).Nodup) {k : Nat} {p : Int × Int} (hk : B[k]? = some p) : p.1 ∉ (B.take k).map Prod.fst := by
  intro hm
  have h2 : (B.take (k + 1)).map Prod.fst = (B.take k).map Prod.fst ++ [p.1] := take_fst hk
  have h3 : ((B.take (k + 1)).map Prod.fst).Nodup := hn.sublist ((List.take_sublist _ _).map _)
  rw [h2, List.nodup_append] at h3
  exact h3.2.2 _ hm p.1 (by simp) rfl
theorem AskK.start {now : Int} {B : List (Int × Int)} {M0 : List Pr} {W0 : Int → Option (Int × Int)} {A0 : Int → Option Int} : AskK now B M0 W0 A0 0 M0 W0 A0 := ⟨fun _ _ => ⟨rfl, rfl, rfl⟩, fun _ h => by simp at h, rfl⟩
section
variable {ev now : Int} {B : List (Int × Int)} {M0 M : List Pr} {W0 W : Int → Option (Int × Int)} {A0 A : Int → Option Int} {k : Nat} {p : Int × Int}
theorem AskK.now_ (h : AskK now B M0 W0 A0 k M W A) (hB : AskH ev now B M0 W0 A0) (hk : B[k]? = some p) : W p.1 = none ∧ (∀ a, A p.1 = some a → 0 < a ∧ now - a = ev) ∧ fwL M p.1 = some (p.2, now) := by
  obtain ⟨h1, h2, h3⟩ := h.out _ (fresh_fst hB.nd hk)
  obtain ⟨g1, g2, g3⟩ := hB.at_ p (List.mem_of_getElem? hk)
  rw [h1, h2, h3]
  exact ⟨g1, g2, g3⟩
theorem AskK.none_ (h : AskK now B M0 W0 A0 k M W A) (hB : AskH ev now B M0 W0 A0) (hk : B[k]? = some p) : AskK now B M0 W0 A0 (k + 1) M (upd W p.1 (some (p.2, now))) (upd A p.1 (some now)) := by
  have hf := (h.now_ hB hk).2.2
  refine ⟨fun id hid => ?_, fun id hid => ?_, h.ids⟩
  · rw [take_fst hk, List.mem_append, not_or, List.mem_singleton] at hid
    unfold upd
    rw [if_neg hid.2, if_neg hid.2]
    exact h.out id hid.1
  · rw [take_fst hk, List.mem_append, List.mem_singleton] at hid
    unfold upd
    by_cases e : id = p.1
    · subst e
      rw [if_pos rfl, if_pos rfl, hf]
      exact ⟨rfl, rfl⟩
    · rw [if_neg e, if_neg e]
      exact h.inn id (hid.resolve_right e)
theorem clr_fwL (hd : Dist M) (id : Int) : fwL (clrP M id) = upd (fwL M) id none := by
  by_cases hi : id ∈ M.map Pr.id
  · obtain ⟨r, hr, rfl⟩ := in_ids hi
    exact clr_fw hd hr
  · have e : clrP M id = M := by
      unfold clrP
      rw [List.map_congr_left (g := fun r => r) (fun a ha => if_neg fun e => hi (List.mem_map.2 ⟨a, ha, e⟩))]
      simp
    rw [e]
    funext j
    unfold upd
    by_cases hj : j = id
    · rw [if_pos hj, hj, fw_no hi]
    · rw [if_neg hj]
theorem AskK.answer (h : AskK now B M0 W0 A0 k M W A) (hB : AskH ev now B M0 W0 A0) (hd : Dist M) (hk : B[k]? = some p) : AskK now B M0 W0 A0 (k + 1) (clrP M p.1) (upd (upd W p.1 (some (p.2, now))) p.1 none) (upd A p.1 (some now)) := by
  have hc := clr_fwL hd p.1
  refine ⟨fun id hid => ?_, fun id hid => ?_, by rw [clr_ids]; exact h.ids⟩
  · rw [take_fst hk, List.mem_append, not_or, List.mem_singleton] at hid
    rw [hc]
    unfold upd
    rw [if_neg hid.2, if_neg hid.2, if_neg hid.2, if_neg hid.2]
    exact h.out id hid.1
  · rw [take_fst hk, List.mem_append, List.mem_singleton] at hid
    rw [hc]
    unfold upd
    by_cases e : id = p.1
    · subst e
      rw [if_pos rfl, if_pos rfl, if_pos rfl]
      exact ⟨rfl, rfl⟩
    · rw [if_neg e, if_neg e, if_neg e, if_neg e]
      exact h.inn id (hid.resolve_right e)
theorem AskK.done (h : AskK now B M0 W0 A0 B.length M W A) (hB : AskH ev now B M0 W0 A0) : W = fwL M ∧ ∀ id, A id = if id ∈ B.map Prod.fst then some now else A0 id := by
  have e : B.take B.length = B := List.take_length
  refine ⟨funext fun id => ?_, fun id => ?_⟩
  · by_cases hid : id ∈ B.map Prod.fst
    · exact (h.inn id (by rw [e]; exact hid)).1
    · obtain ⟨h1, -, h3⟩ := h.out id (by rw [e]; exact hid)
      rw [h1, h3, hB.off id hid]
  · by_cases hid : id ∈ B.map Prod.fst
    · rw [if_pos hid]; exact (h.inn id (by rw [e]; exact hid)).2
    · rw [if_neg hid]; exact (h.out id (by rw [e]; exact hid)).2.1
theorem Okr.clr {pa no N : Int} (h : ∀ r ∈ M, Okr ev pa no N r) (id : Int) : ∀ r ∈ clrP M id, Okr ev pa no N r := fun r hr => by
  obtain ⟨a, ha, rfl⟩ := List.mem_map.1 hr
  have := h a ha
  split
  · exact ⟨this.1, fun q => absurd q (by show ¬ (0 : Int) < 0; omega)⟩
  · exact this
end
theorem res_ok {M : List Pr} {id s now : Int} (h : fwL M id = some (s, now)) : resC M id s = (0, clrP M id) := by
  unfold fwL at h
  unfold resC
  cases hf : findP M id with
  | none => rw [hf] at h; cases h
  | some r =>
    rw [hf] at h
    replace h : waitOf r = some (s, now) := h
    unfold waitOf at h
    split at h
    · rename_i h0
      injection h with h
      injection h with h1 h2
      exact if_pos ⟨h1, h0⟩
    · cases h
theorem res_no {M : List Pr} {id s : Int} (h : fwL M id = none) : resC M id s = (7, M) := by
  unfold fwL at h
  unfold resC
  cases hf : findP M id with
  | none => rfl
  | some r =>
    rw [hf] at h
    replace h : waitOf r = none := h
    unfold waitOf at h
    split at h
    · cases h
    · rename_i h0
      exact if_neg fun q => h0 q.2
/-- a tick. -/
theorem tick_ask {ev pa no sq N : Int} {L : List Pr} (hG : GoodP ev pa no sq L) (hok : ∀ r ∈ L, Okr ev pa no N r) (hN : no + 1 ≤ N) (hN2 : N = 1 ∨ 1 + ev ≤ N) :
    ∃ N', no + 1 + 1 ≤ N' ∧ (N' = 1 ∨ 1 + ev ≤ N') ∧ AskH ev (no + 1) (askAll (no + 1) ev sq (tick1 no pa L)).2.2 (askAll (no + 1) ev sq (tick1 no pa L)).1 (fwL (tick1 no pa L)) (lastF L ev N) ∧
      (∀ r ∈ (askAll (no + 1) ev sq (tick1 no pa L)).1, Okr ev pa (no + 1) N' r) ∧ (askAll (no + 1) ev sq (tick1 no pa L)).1.map Pr.id = L.map Pr.id ∧
      ∀ (M : List Pr) (A : Int → Option Int), M.map Pr.id = L.map Pr.id → (∀ id, A id = if id ∈ (askAll (no + 1) ev sq (tick1 no pa L)).2.2.map Prod.fst then some (no + 1) else lastF L ev N id) → A = lastF M ev N' := by
  have hp := hG.pa_
  have he := hG.ev_
  have hn0 := hG.no_
  have hid1 : (tick1 no pa L).map Pr.id = L.map Pr.id := lost_ids _ _ L
  have hok1 : ∀ r ∈ tick1 no pa L, Okr ev pa (no + 1) N r := fun r hr => by
    obtain ⟨a, ha, rfl⟩ := List.mem_map.1 hr
    exact (hok a ha).lost
  have hG1 := hG.lost
  have hd1 := hG1.dist
  by_cases hNn : N = no + 1
  · obtain ⟨a1, a2, a3⟩ := ask_all (no := no + 1) (ev := ev) (L := tick1 no pa L) hG.sq_ fun r hr => by rw [(hok1 r hr).1, hNn]
    have hda : Dist (askAll (no + 1) ev sq (tick1 no pa L)).1 := hG1.ask.dist
    have hia := ask_ids (no + 1) ev (tick1 no pa L) sq
    rw [hid1] at a1 hia
    refine ⟨no + 1 + ev, by omega, by omega, ⟨?_, fun p hpB => ?_, fun id hid => ?_⟩, fun r hr => ?_, hia, fun M A hM hA => ?_⟩
    · rw [a1]; exact map_dist hG.dist
    · obtain ⟨r, hr, rfl⟩ := a3 p hpB
      obtain ⟨q1, q2, q3, q4⟩ := a2 r hr
      refine ⟨?_, fun a ha => ?_, ?_⟩
      · have hm : r.id ∈ (tick1 no pa L).map Pr.id := by rw [hid1, ← hia]; exact List.mem_map.2 ⟨r, hr, rfl⟩
        obtain ⟨b, hb, e⟩ := in_ids hm
        simp only
        rw [← e, fw_row hd1 hb]
        unfold waitOf
        rw [if_neg fun q => by have := (hok1 b hb).2 q; omega]
      · unfold lastF at ha
        split at ha
        · injection ha with ha; omega
        · cases ha
      · simp only
        rw [fw_row hda hr]
        unfold waitOf
        rw [if_pos q3, q2]
    · rw [a1] at hid
      rw [fw_no (by rw [hid1]; exact hid), fw_no (by rw [hia]; exact hid)]
    · obtain ⟨q1, q2, q3, q4⟩ := a2 r hr
      exact ⟨q1, fun _ => by omega⟩
    · funext id
      rw [hA, a1]
      unfold lastF
      rw [hM]
      by_cases hid : id ∈ L.map Pr.id
      · rw [if_pos hid, if_pos ⟨by omega, hid⟩]; congr 1; omega
      · rw [if_neg hid, if_neg fun q => hid q.2, if_neg fun q => hid q.2]
  · have e : askAll (no + 1) ev sq (tick1 no pa L) = (tick1 no pa L, sq, []) := ask_none fun r hr => by rw [(hok1 r hr).1]; exact hNn
    rw [e]
    refine ⟨N, by omega, by omega, ⟨List.nodup_nil, fun p hp => by simp at hp, fun id _ => rfl⟩, hok1, hid1, fun M A hM hA => ?_⟩
    funext id
    rw [hA]
    simp only [List.map_nil, List.not_mem_nil, if_false]
    unfold lastF
    rw [hM]
theorem waits_ids (L : List Pr) : (waitsOf L).map Prod.fst = (L.filter fun r => decide (0 < r.sq)).map Pr.id := by unfold waitsOf; rw [List.map_map]; rfl
theorem waits_fw {L : List Pr} (hd : Dist L) : ((waitsOf L).map Prod.fst).Nodup ∧ ∀ id, id ∈ (waitsOf L).map Prod.fst ↔ (fwL L id).isSome = true := by
  rw [waits_ids]
  refine ⟨List.Pairwise.sublist (List.filter_sublist.map _) (map_dist hd), fun id => ⟨fun h => ?_, fun h => ?_⟩⟩
  · obtain ⟨r, hr, rfl⟩ := List.mem_map.1 h
    obtain ⟨h1, h2⟩ := List.mem_filter.1 hr
    rw [fw_row hd h1]
    unfold waitOf
    rw [if_pos (by simpa using h2)]
    rfl
  · by_cases hi : id ∈ L.map Pr.id
    · obtain ⟨r, hr, rfl⟩ := in_ids hi
      rw [fw_row hd hr] at h
      unfold waitOf at h
      split at h
      · rename_i h0
        exact List.mem_map.2 ⟨r, List.mem_filter.2 ⟨hr, by simpa using h0⟩, rfl⟩
      · cases h
    · rw [fw_no hi] at h; cases h
theorem add_ok {ev pa : Int} {L : List Pr} (id : Int) (h : ∀ r ∈ L, Okr ev pa 0 1 r) : ∀ r ∈ (addC L id 0).2, Okr ev pa 0 1 r := by
  unfold addC
  split
  · exact h
  · split
    · exact h
    · intro r hr
      rcases ins_mem hr with hr | rfl
      · exact h r hr
      · exact ⟨rfl, fun q => absurd q (by show ¬ (0 : Int) < 0; omega)⟩
end Go.Proofs.Ytejgekoinbdhjaa
