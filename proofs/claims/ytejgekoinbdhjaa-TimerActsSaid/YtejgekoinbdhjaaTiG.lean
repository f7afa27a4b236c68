/- timer: fresh. -/
import Derived.Test.YtejgekoinbdhjaaTiF
import Derived.Test.YtejgekoinbdhjaaChg
import Derived.Deep.LoopGhost
namespace Go.Proofs.Ytejgekoinbdhjaa
set_option linter.unusedVariables false
open Go Go.RowKit Go.Maps

theorem downL_len : ∀ (f : Nat) (H : List Slo) (i : Nat), (downL f H i).length = H.length
  | 0, _, _ => rfl
  | f + 1, H, i => by
    rw [downL]
    split
    · rfl
    · rw [downL_len f, swapL_len]
theorem popL_len {H : List Slo} (h : 0 < H.length) : (popL H).length = H.length - 1 := by
  unfold popL
  rw [List.getElem?_eq_getElem (show H.length - 1 < H.length by omega)]
  simp only
  rw [downL_len, List.length_take, List.length_set]
  omega
/-- what is old at the head goes. -/
def freshL : Nat → List Slo → List Slo → List Slo
  | 0, _, H => H
  | f + 1, A, H =>
    match H[0]? with
    | some s => if s ∈ A then H else freshL f A (popL H)
    | none => H
theorem fresh_nil (f : Nat) (A H : List Slo) (h : H[0]? = none) : freshL f A H = H := by
  cases f with
  | zero => rfl
  | succ f => unfold freshL; rw [h]
theorem fresh_stop {f : Nat} {A H : List Slo} {s : Slo} (h : H[0]? = some s) (hs : s ∈ A) : freshL f A H = H := by
  cases f with
  | zero => rfl
  | succ f => unfold freshL; simp only [h, if_pos hs]
theorem fresh_step {f : Nat} {A H : List Slo} {s : Slo} (h : H[0]? = some s) (hs : s ∉ A) (hf : 0 < f) : ∃ f', f = f' + 1 ∧ freshL f A H = freshL f' A (popL H) := by
  cases f with
  | zero => omega
  | succ f => refine ⟨f, rfl, ?_⟩; rw [freshL]; simp only [h, if_neg hs]
/-- slots that a table may hold. -/
def SloOk (s : Slo) : Prop := 0 ≤ s.id ∧ s.id ≤ 100000 ∧ s.od ≠ 0
/-- the head, as it is given back. -/
def headV (H : List Slo) : Value :=
  match H[0]? with
  | some s => .tuple #[.agg #[.int .i64 s.id, .int .i64 s.ex, .int .i64 s.od], .bool true]
  | none => .tuple #[.agg #[.int .i64 0, .int .i64 0, .int .i64 0], .bool false]
theorem pop_mem {H : List Slo} : ∀ s ∈ popL H, s ∈ H := by
  have hsw : ∀ (H : List Slo) i j, ∀ s ∈ swapL H i j, s ∈ H := by
    intro H i j s hs
    unfold swapL at hs
    split at hs
    · rename_i x y hx hy
      rcases List.mem_or_eq_of_mem_set hs with hs | rfl
      · rcases List.mem_or_eq_of_mem_set hs with hs | rfl
        · exact hs
        · exact List.mem_of_getElem? hy
      · exact List.mem_of_getElem? hx
    · exact hs
  have hd : ∀ f (H : List Slo) i, ∀ s ∈ downL f H i, s ∈ H := by
    intro f
    induction f with
    | zero => intro H i s hs; exact hs
    | succ f ih =>
      intro H i s hs
      rw [downL] at hs
      split at hs
      · exact hs
      · exact hsw _ _ _ s (ih _ _ s hs)
  intro s hs
  unfold popL at hs
  split at hs
  · rename_i z hz
    rcases List.mem_or_eq_of_mem_set (List.mem_of_mem_take (hd _ _ _ s hs)) with hs | rfl
    · exact hs
    · exact List.mem_of_getElem? hz
  · exact hs
theorem TabV.chg {w w' : World} {X : Nat → Prop} {g b : Nat} {mo no co : Int} {v : Value} {A H : List Slo} (h : TabV w g b mo no co v A H) (hc : Chg w w' X) (hg : ¬ X g) (hb : ¬ X b) (hr : ∀ k, v.ownBlock = some k → ¬ X k) : TabV w' g b mo no co v A H :=
  ⟨hc.blk h.blk hg, hc.ent h.ent hb, ⟨hc.own h.row.1 hr, fun _ _ => trivial⟩, h.ng, h.nb⟩
theorem got_slot : (Try.prog.info? 198).map (·.size) = some 3 := by kernel_rfl
set_option maxRecDepth 100000 in
set_option maxHeartbeats 4000000 in
theorem fresh_any (w : World) (g b : Nat) (mo no co : Int) (A H : List Slo) (r cap n : Nat) (h : TabV w g b mo no co (.slice (some ⟨r, 0, none⟩) n cap) A H) (hok : ∀ s ∈ H, SloOk s) (hn : n ≤ 1000000) :
    Calls Try.prog 137 #[.pointer (some ⟨g, 0, none⟩)] w fun e w' => e = .returned (headV (freshL n A H)) ∧ TabV w' g b mo no co (.slice (some ⟨r, 0, none⟩) (freshL n A H).length cap) A (freshL n A H) ∧ Chg w w' (fun k => k = g ∨ k = r) := by
  have hl0 := row_len h.row
  have ltr : r < w.heap.size := (h.row.1.lt r rfl).2
  have ltgw := h.ltg
  have ltbw := h.ltb
  have hx := Blk.new w 198 #[.int .i64 0, .int .i64 0, .int .i64 0]
  have h1 := h.alloc (.cells #[.int .i64 0, .int .i64 0, .int .i64 0] 198)
  have hB : Chg w (w.alloc (.cells #[.int .i64 0, .int .i64 0, .int .i64 0] 198)) (fun k => k = g ∨ k = r) := Chg.of_below ((Below.refl w.heap.size w).alloc (Nat.le_refl _) _)
  replace hl0 := Lib.hid hl0
  go_enter Try.func137, Try.ntmps137
  go_wp2_with fail
  generalize w.alloc (.cells #[.int .i64 0, .int .i64 0, .int .i64 0] 198) = w1 at *
  go_loopg [] n (fun gf wr => ∃ (f m : Nat) (H' : List Slo), freshL f A H' = freshL n A H ∧ m ≤ f ∧ m ≤ gf ∧ (∀ s ∈ H', SloOk s) ∧ m ≤ n ∧ H'.length = m ∧ TabV wr g b mo no co (.slice (some ⟨r, 0, none⟩) m cap) A H' ∧ Blk wr w.heap.size 198 #[.int .i64 0, .int .i64 0, .int .i64 0] ∧ Chg w wr (fun k => k = g ∨ k = r))
  case atStart => exact ⟨n, n, H, rfl, Nat.le_refl _, Nat.le_refl _, hok, Nat.le_refl _, hl0.out, h1, hx, hB⟩
  case round =>
  obtain ⟨f, m, H', hfr, hmf, hmg, hok', hmn, hl, hT, hX, hC⟩ := hrel
  clear h h1 hx hB
  replace hfr := Lib.hid hfr
  have c4 : wr.cell? ⟨g, 4, none⟩ = some (.slice (some ⟨r, 0, none⟩) m cap) := hT.blk.cellv 4 rfl
  have ltg := hT.ltg
  have ltx := hX.lt
  have ltr2 : r < wr.heap.size := Nat.lt_of_lt_of_le ltr hC.size
  by_cases hm0 : 0 < m
  · have i0 : (0 : Int) < m := by omega
    have hs0 := List.getElem?_eq_getElem (show 0 < H'.length by omega)
    generalize H'[0]'(by omega) = s at hs0
    obtain ⟨s0, s1, s2⟩ := slo_at hT.row hs0 hm0
    simp only [Nat.zero_mul, Nat.zero_add] at s0 s1 s2
    have hso := hok' s (List.mem_of_getElem? hs0)
    obtain ⟨q0, q1, q2⟩ := hso
    by_cases hs : s ∈ A
    · have hst := Lib.hid ((fresh_stop (f := f) hs0 hs).symm.trans hfr.out)
      have hd : decide (s ∉ A) = false := by simpa using hs
      replace hl := Lib.hid hl
      replace hs0 := Lib.hid hs0
      go_upto_region 5 with (go_at_call 177; refine (oldT_any wr g b mo no co _ A H' hT s (by omega) (by omega) q2).mono ?_; rintro e w2 ⟨rfl, hb2⟩; rw [hd]; have c4' : w2.cell? ⟨g, 4, none⟩ = some (.slice (some ⟨r, 0, none⟩) m cap) := (hT.nx hb2).blk.cellv 4 rfl)
      have hT2 := hT.nx hb2
      have hX2 := hX.below hb2 ltx
      have hC2 : Chg w w2 (fun k => k = g ∨ k = r) := hC.trans (Chg.of_below (X := fun _ => False) hb2) (fun _ _ h => h.elim)
      obtain ⟨z0, z1, z2⟩ := slo_at hT2.row hs0.out hm0
      simp only [Nat.zero_mul, Nat.zero_add] at z0 z1 z2
      have ltg2 := hT2.ltg
      have ltx2 := hX2.lt
      replace hT2 := Lib.hid hT2
      replace hC2 := Lib.hid hC2
      clear hT hX hC c4 s0 s1 s2 hb2
      go_wp2_with (refine wpList_store_blk rfl hX2 198 (.tmp 2) (.tmp 34) rfl rfl rfl rfl got_slot (by simp [Value.oneCell']) ?_; intro w3 hX3 hg3)
      try rw [Exit.noGoto_ret]
      refine bodyPost_ret (results_ct rfl _ rfl (load_blk hX3 Try.underlying198 rfl got_slot)) rfl ?_
      rw [← hst.out]
      have hC3 : Chg w2 w3 (fun k => k = w.heap.size) := Chg.of_grown hg3 rfl
      refine ⟨by unfold headV; rw [hs0.out]; rfl, ?_, hC2.out.trans hC3 (fun i hi q => by omega)⟩
      rw [hl.out]
      exact hT2.out.chg hC3 (by omega) (by omega) (fun k q => by (have q2 : some r = some k := q); injection q2 with q2; omega)
    · obtain ⟨f', hf', hst⟩ := fresh_step (f := f) hs0 hs (by omega)
      replace hst := Lib.hid (hst.symm.trans hfr.out)
      have hd : decide (s ∉ A) = true := by simpa using hs
      have hpl := Lib.hid (popL_len (H := H') (by omega))
      replace hl := Lib.hid hl
      replace hs0 := Lib.hid hs0
      go_wp2_with (first
        | (go_at_call 177; refine (oldT_any wr g b mo no co _ A H' hT s (by omega) (by omega) q2).mono ?_; rintro e w2 ⟨rfl, hb2⟩; rw [hd])
        | (go_at_call 138; refine (pop_any w2 g b mo no co A H' r cap m (hT.nx hb2) hm0 (by omega)).mono ?_; rintro e w5 ⟨rfl, hT5, w3, w4, k1, k2, k3⟩))
      have hC5 : Chg w w5 (fun k => k = g ∨ k = r) := ((((hC.trans (Chg.of_below (X := fun _ => False) hb2) (fun _ _ h => h.elim)).trans (Chg.of_grown (X := fun k => k = r) k1 rfl) (fun _ _ h => .inr h)).trans (Chg.of_grown (X := fun k => k = g) k2 rfl) (fun _ _ h => .inl h)).trans (Chg.of_grown (X := fun k => k = r) k3 rfl) (fun _ _ h => .inr h))
      have hC25 : Chg wr w5 (fun k => k = g ∨ k = r) := ((((Chg.of_below hb2).trans (Chg.of_grown (X := fun k => k = r) k1 rfl) (fun _ _ h => .inr h)).trans (Chg.of_grown (X := fun k => k = g) k2 rfl) (fun _ _ h => .inl h)).trans (Chg.of_grown (X := fun k => k = r) k3 rfl) (fun _ _ h => .inr h))
      go_roundg (m - 1)
      case measure => omega
      case rel => exact ⟨f', m - 1, popL H', hst.out, by omega, Nat.le_refl _, fun s hs => hok' s (pop_mem s hs), by omega, by rw [hpl.out, hl.out], hT5, hC25.blk hX (by omega), hC5⟩
  · have hm : m = 0 := by omega
    have d0 : decide ((0 : Int) < (m : Int)) = false := by simp; omega
    have d1 : decide (0 < m) = false := by simp; omega
    have d2 : ((m : Int) == 0) = true := by simp; omega
    have hn0 : H'[0]? = none := List.getElem?_eq_none (by omega)
    have hst := Lib.hid ((fresh_nil f A H' hn0).symm.trans hfr.out)
    replace hl := Lib.hid hl
    replace hn0 := Lib.hid hn0
    replace hT := Lib.hid hT
    replace hC := Lib.hid hC
    clear hm
    go_wp2_with (refine wpList_store_blk rfl hX 198 (.tmp 2) (.tmp 28) rfl rfl rfl rfl got_slot (by simp [Value.oneCell']) ?_; intro w3 hX3 hg3)
    try rw [Exit.noGoto_ret]
    refine bodyPost_ret (results_ct rfl _ rfl (load_blk hX3 Try.underlying198 rfl got_slot)) rfl ?_
    rw [← hst.out]
    have hC3 : Chg wr w3 (fun k => k = w.heap.size) := Chg.of_grown hg3 rfl
    refine ⟨by unfold headV; rw [hn0.out]; rfl, ?_, hC.out.trans hC3 (fun i hi q => by omega)⟩
    rw [hl.out]
    exact hT.out.chg hC3 (by omega) (by omega) (fun k q => by (have q2 : some r = some k := q); injection q2 with q2; omega)
end Go.Proofs.Ytejgekoinbdhjaa
