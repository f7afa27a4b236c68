/- probe: plain laws of adding, removing, answers; a scheduler in plain terms. -/
import Derived.Test.YtejgekoinbdhjaaPrH
import Derived.Test.YtejgekoinbdhjaaPrG
import Derived.Test.YtejgekoinbdhjaaPrE
namespace Go.Proofs.Ytejgekoinbdhjaa
set_option linter.unusedVariables false
open Go Go.RowKit Go.Maps

def insP (L : List Pr) (id nx : Int) : List Pr := L.takeWhile (fun r => decide (r.id < id)) ++ ⟨id, nx, 0, 0⟩ :: L.dropWhile (fun r => decide (r.id < id))
def remP (L : List Pr) (id : Int) : List Pr := L.filter fun r => decide (r.id ≠ id)
def clrP (L : List Pr) (id : Int) : List Pr := L.map fun r => if r.id = id then { r with sq := 0 } else r
theorem take_lt : ∀ {L : List Pr} {id : Int}, ∀ a ∈ L.takeWhile (fun r => decide (r.id < id)), a.id < id
  | [], _, a, ha => by simp at ha
  | r :: L, id, a, ha => by
    by_cases h : r.id < id
    · rw [List.takeWhile_cons_of_pos (by simpa using h)] at ha
      rcases List.mem_cons.1 ha with rfl | ha
      · exact h
      · exact take_lt a ha
    · rw [List.takeWhile_cons_of_neg (by simpa using h)] at ha
      cases ha
theorem drop_gt : ∀ {L : List Pr} {id : Int}, Dist L → (∀ a ∈ L, a.id ≠ id) → ∀ a ∈ L.dropWhile (fun r => decide (r.id < id)), id < a.id
  | [], _, _, _, a, ha => by simp at ha
  | r :: L, id, hd, hn, a, ha => by
    unfold Dist at hd
    rw [List.pairwise_cons] at hd
    by_cases h : r.id < id
    · rw [List.dropWhile_cons_of_pos (by simpa using h)] at ha
      exact drop_gt hd.2 (fun b hb => hn b (by simp [hb])) a ha
    · rw [List.dropWhile_cons_of_neg (by simpa using h)] at ha
      have hr := hn r (by simp)
      rcases List.mem_cons.1 ha with rfl | ha
      · omega
      · have := hd.1 a ha; omega
theorem ins_fn {L : List Pr} {id nx : Int} (hn : ∀ a ∈ L, a.id ≠ id) : fnL (insP L id nx) = upd (fnL L) id (some nx) := by
  funext j
  unfold upd fnL insP
  by_cases h : j = id
  · rw [if_pos h, h, findP_mid (r := ⟨id, nx, 0, 0⟩) (fun a ha => by have := take_lt a ha; show a.id ≠ id; omega)]; rfl
  · rw [if_neg h, findP_other (r := ⟨id, nx, 0, 0⟩) h, List.takeWhile_append_dropWhile]
theorem ins_fw {L : List Pr} {id nx : Int} (hn : ∀ a ∈ L, a.id ≠ id) : fwL (insP L id nx) = fwL L := by
  funext j
  unfold fwL
  by_cases h : j = id
  · unfold insP
    rw [h, findP_mid (r := ⟨id, nx, 0, 0⟩) (fun a ha => by have := take_lt a ha; show a.id ≠ id; omega), findP_none hn]; rfl
  · unfold insP
    rw [findP_other (r := ⟨id, nx, 0, 0⟩) h, List.takeWhile_append_dropWhile]
theorem ins_mem {L : List Pr} {id nx : Int} {a : Pr} (h : a ∈ insP L id nx) : a ∈ L ∨ a = ⟨id, nx, 0, 0⟩ := by
  unfold insP at h
  rcases List.mem_append.1 h with h | h
  · exact .inl (List.takeWhile_sublist _ |>.subset h)
  · rcases List.mem_cons.1 h with h | h
    · exact .inr h
    · exact .inl (List.dropWhile_sublist _ |>.subset h)
theorem ins_dist {L : List Pr} {id nx : Int} (hd : Dist L) (hn : ∀ a ∈ L, a.id ≠ id) : Dist (insP L id nx) := by
  unfold Dist insP
  rw [List.pairwise_append, List.pairwise_cons]
  refine ⟨List.Pairwise.sublist (List.takeWhile_sublist _) hd, ⟨fun a ha => drop_gt hd hn a ha, List.Pairwise.sublist (List.dropWhile_sublist _) hd⟩, fun a ha b hb => ?_⟩
  have h1 := take_lt a ha
  rcases List.mem_cons.1 hb with rfl | hb
  · exact h1
  · have := drop_gt hd hn b hb; omega
theorem find_rem (L : List Pr) (id j : Int) : findP (remP L id) j = if j = id then none else findP L j := by
  unfold findP remP
  rw [List.find?_filter]
  by_cases h : j = id
  · rw [if_pos h, List.find?_eq_none]
    intro a _
    simp [h]
  · rw [if_neg h]
    congr 1
    funext a
    rw [Bool.eq_iff_iff]
    simp only [decide_eq_true_eq]
    constructor
    · exact fun q => q.2
    · exact fun q => ⟨by rw [q]; exact h, q⟩
theorem rem_fn (L : List Pr) (id : Int) : fnL (remP L id) = upd (fnL L) id none := by
  funext j
  unfold upd fnL
  rw [find_rem]
  split <;> rfl
theorem rem_fw (L : List Pr) (id : Int) : fwL (remP L id) = upd (fwL L) id none := by
  funext j
  unfold upd fwL
  rw [find_rem]
  split <;> rfl
theorem clr_mid {P Q : List Pr} {r : Pr} (hd : Dist (P ++ r :: Q)) : clrP (P ++ r :: Q) r.id = P ++ { r with sq := 0 } :: Q := by
  have h1 := dist_mid hd
  unfold Dist at hd
  rw [List.pairwise_append, List.pairwise_cons] at hd
  unfold clrP
  rw [List.map_append, List.map_cons, if_pos rfl]
  have eP : P.map (fun a => if a.id = r.id then { a with sq := 0 } else a) = P := by
    conv => rhs; rw [← List.map_id P]
    exact List.map_congr_left fun a ha => by rw [if_neg (h1 a ha)]; rfl
  have eQ : Q.map (fun a => if a.id = r.id then { a with sq := 0 } else a) = Q := by
    conv => rhs; rw [← List.map_id Q]
    exact List.map_congr_left fun a ha => by rw [if_neg (by have := hd.2.1.1 a ha; omega)]; rfl
  rw [eP, eQ]
theorem clr_fn {L : List Pr} {r : Pr} (hd : Dist L) (hr : r ∈ L) : fnL (clrP L r.id) = fnL L := by
  obtain ⟨P, Q, rfl⟩ := List.append_of_mem hr
  rw [clr_mid hd]
  exact fn_same (r' := { r with sq := 0 }) (dist_mid hd) rfl rfl
theorem clr_fw {L : List Pr} {r : Pr} (hd : Dist L) (hr : r ∈ L) : fwL (clrP L r.id) = upd (fwL L) r.id none := by
  obtain ⟨P, Q, rfl⟩ := List.append_of_mem hr
  rw [clr_mid hd, fw_set (r := r) (r' := { r with sq := 0 }) (dist_mid hd) rfl]
  rfl
theorem clr_ids (L : List Pr) (id : Int) : (clrP L id).map Pr.id = L.map Pr.id := by
  unfold clrP
  rw [List.map_map]
  exact List.map_congr_left fun a _ => by simp only [Function.comp]; split <;> rfl
theorem dist_of_ids {L M : List Pr} (h : L.map Pr.id = M.map Pr.id) (hd : Dist M) : Dist L := by
  have := dist_ids hd
  rw [← h] at this
  exact List.pairwise_map.1 this
theorem lost_ids (no pa : Int) (L : List Pr) : (L.map (lostR no pa)).map Pr.id = L.map Pr.id := by
  rw [List.map_map]
  exact List.map_congr_left fun a _ => lostR_id no pa a
theorem ask_ids (no ev : Int) : ∀ (L : List Pr) (sq : Int), (askAll no ev sq L).1.map Pr.id = L.map Pr.id
  | [], _ => rfl
  | r :: L, sq => by
    unfold askAll
    split
    · simp only [List.map_cons, ask_ids no ev L]
    · simp only [List.map_cons, ask_ids no ev L]
theorem ask_sq (no ev : Int) : ∀ (L : List Pr) (sq : Int), sq ≤ (askAll no ev sq L).2.1 ∧ (askAll no ev sq L).2.1 ≤ sq + L.length
  | [], sq => by simp [askAll]
  | r :: L, sq => by
    unfold askAll
    have h1 := ask_sq no ev L (sq + 1)
    have h2 := ask_sq no ev L sq
    split <;> simp only [List.length_cons] <;> omega
def RowIn (no sq : Int) (r : Pr) : Prop := (0 ≤ r.id ∧ r.id ≤ 255) ∧ (0 ≤ r.sq ∧ r.sq ≤ sq) ∧ (0 < r.sq → 0 ≤ r.at_ ∧ r.at_ ≤ no)
theorem RowIn.up {no no' sq sq' : Int} {r : Pr} (h : RowIn no sq r) (h1 : no ≤ no') (h2 : sq ≤ sq') : RowIn no' sq' r := by
  unfold RowIn at *
  omega
theorem ask_rows (no ev : Int) (h0 : 0 ≤ no) : ∀ (L : List Pr) (sq : Int), 0 ≤ sq → (∀ r ∈ L, RowIn no sq r) → ∀ r ∈ (askAll no ev sq L).1, RowIn no (askAll no ev sq L).2.1 r
  | [], _, _, _, r, hr => by simp [askAll] at hr
  | a :: L, sq, hs, h, r, hr => by
    have ha := h a (by simp)
    unfold askAll at hr ⊢
    have q1 := ask_sq no ev L (sq + 1)
    have q2 := ask_sq no ev L sq
    split
    · rename_i hn
      rw [if_pos hn] at hr
      rcases List.mem_cons.1 hr with rfl | hr
      · unfold RowIn at *
        simp only
        omega
      · exact ask_rows no ev h0 L (sq + 1) (by omega) (fun r q => (h r (by simp [q])).up (Int.le_refl _) (by omega)) r hr
    · rename_i hn
      rw [if_neg hn] at hr
      rcases List.mem_cons.1 hr with rfl | hr
      · exact ha.up (Int.le_refl _) q2.1
      · exact ask_rows no ev h0 L sq hs (fun r q => h r (by simp [q])) r hr
theorem lostR_in {no sq pa : Int} {r : Pr} (h : RowIn no sq r) : RowIn no sq (lostR no pa r) := by
  unfold lostR
  split
  · unfold RowIn at *; simp only; omega
  · exact h
theorem clr_in {no sq : Int} {L : List Pr} (h : ∀ r ∈ L, RowIn no sq r) (id : Int) : ∀ r ∈ clrP L id, RowIn no sq r := fun r hr => by
  obtain ⟨a, ha, rfl⟩ := List.mem_map.1 hr
  have := h a ha
  split
  · unfold RowIn at *; simp only; omega
  · exact this
theorem asc_len : ∀ {l : List Int} {a b : Int}, (l.Pairwise fun x y => x < y) → (∀ x ∈ l, a ≤ x ∧ x ≤ b) → a ≤ b + 1 → (l.length : Int) ≤ b + 1 - a
  | [], a, b, _, _, h => by simp; omega
  | x :: l, a, b, hp, hx, _ => by
    rw [List.pairwise_cons] at hp
    have hx1 := hx x (by simp)
    have := asc_len (a := x + 1) (b := b) hp.2 (fun y hy => ⟨by have := hp.1 y hy; omega, (hx y (by simp [hy])).2⟩) (by omega)
    simp only [List.length_cons]
    omega
/-- a scheduler that lies in blocks of which X is so. -/
structure GoodP (ev pa no sq : Int) (L : List Pr) : Prop where
  ev_ : 1 ≤ ev ∧ ev ≤ 10000
  pa_ : 1 ≤ pa ∧ pa ≤ ev
  no_ : 0 ≤ no
  sq_ : 0 ≤ sq
  dist : Dist L
  rows : ∀ r ∈ L, RowIn no sq r
def TabP (w : World) (X : Nat → Prop) (g : Nat) (ev pa no sq : Int) (L : List Pr) : Prop :=
  ∃ bn bw, ProV w g bn bw ev pa no sq (fnL L) (fwL L) ∧ GoodP ev pa no sq L ∧ (∀ k, k = g ∨ k = bn ∨ k = bw → X k) ∧ ∀ k, X k → k < w.heap.size
section
variable {w w' : World} {X Y : Nat → Prop} {g : Nat} {ev pa no sq : Int} {L : List Pr}
theorem GoodP.len (h : GoodP ev pa no sq L) : L.length ≤ 256 := by
  have := asc_len (a := 0) (b := 255) (dist_ids h.dist) (fun x hx => by obtain ⟨r, hr, rfl⟩ := List.mem_map.1 hx; exact (h.rows r hr).1) (by omega)
  rw [List.length_map] at this
  omega
theorem GoodP.idIn (h : GoodP ev pa no sq L) : ∀ k ∈ L.map Pr.id, IdIn k := fun k hk => by
  obtain ⟨r, hr, rfl⟩ := List.mem_map.1 hk
  have := (h.rows r hr).1
  unfold IdIn
  omega
theorem GoodP.at_ (h : GoodP ev pa no sq L) : ∀ id p, fwL L id = some p → 0 ≤ p.2 ∧ p.2 ≤ no := fun id p hp => by
  unfold fwL at hp
  cases hf : findP L id with
  | none => rw [hf] at hp; cases hp
  | some r =>
    rw [hf] at hp
    replace hp : waitOf r = some p := hp
    unfold waitOf at hp
    split at hp
    · rename_i h0
      injection hp with hp
      subst hp
      exact (h.rows r (findP_get hf).1).2.2 h0
    · cases hp
theorem TabP.good (h : TabP w X g ev pa no sq L) : GoodP ev pa no sq L := by obtain ⟨_, _, _, h, _⟩ := h; exact h
theorem TabP.lt (h : TabP w X g ev pa no sq L) : ∀ k, X k → k < w.heap.size := by obtain ⟨_, _, _, _, _, h⟩ := h; exact h
theorem TabP.mine (h : TabP w X g ev pa no sq L) : X g := by obtain ⟨_, _, _, _, h, _⟩ := h; exact h _ (.inl rfl)
theorem TabP.chg (h : TabP w X g ev pa no sq L) (hc : Chg w w' Y) (hd : ∀ k, X k → ¬ Y k) : TabP w' X g ev pa no sq L := by
  obtain ⟨bn, bw, h1, h2, h3, h4⟩ := h
  exact ⟨bn, bw, h1.chg hc (hd _ (h3 _ (.inl rfl))) (hd _ (h3 _ (.inr (.inl rfl)))) (hd _ (h3 _ (.inr (.inr rfl)))), h2, h3, fun k hk => Nat.lt_of_lt_of_le (h4 k hk) hc.size⟩
theorem TabP.nx (h : TabP w X g ev pa no sq L) (hb : Below w.heap.size w w') : TabP w' X g ev pa no sq L := h.chg (Chg.of_below (X := fun _ => False) hb) fun _ _ q => q
end
end Go.Proofs.Ytejgekoinbdhjaa
