/- flows: New, Len, Counts, gone. -/
import Derived.Test.YtejgekoinbdhjaaFlD
namespace Go.Proofs.Ytejgekoinbdhjaa
set_option linter.unusedVariables false
open Go Go.RowKit Go.Maps

def ze : EnV := ⟨⟨0, 0, 0, 0, 0⟩, 0, 0⟩
set_option maxRecDepth 100000 in
set_option maxHeartbeats 2000000 in
theorem newF_in (w : World) (ro idl : Int) (h1 : 1 ≤ ro) (h2 : ro ≤ 1024) (h3 : 1 ≤ idl) (h4 : idl ≤ 1000000) :
    Calls Try.prog 39 #[.int .i64 ro, .int .i64 idl] w fun en w' => ∃ g m e, en = .returned (.pointer (some ⟨g, 0, none⟩)) ∧ RingV w' g m e ro idl 0 0 0 [] (fun _ => ze) (fun _ => e) (fun _ => e) ∧ w.heap.size ≤ g ∧ w.heap.size ≤ m ∧ w.heap.size ≤ e ∧ Below w.heap.size w w' := by
  have d1 : decide (ro < 1) = false := by simp; omega
  have d2 : decide (1024 < ro) = false := by simp; omega
  have d3 : decide (idl < 1) = false := by simp; omega
  have d4 : decide (1000000 < idl) = false := by simp; omega
  have hB := (Below.refl w.heap.size w).alloc (Nat.le_refl _) (.cells #[.int .i64 0, .int .u32 0, .int .u32 0, .int .i64 0, .int .i64 0, .int .i64 0, .int .i64 0, .pointer none, .pointer none] 177)
  have hq := Blk.new w 177 #[.int .i64 0, .int .u32 0, .int .u32 0, .int .i64 0, .int .i64 0, .int .i64 0, .int .i64 0, .pointer none, .pointer none]
  go_enter Try.func39, Try.ntmps39
  go_upto_region 4 with (fail)
  generalize w.alloc (.cells #[.int .i64 0, .int .u32 0, .int .u32 0, .int .i64 0, .int .i64 0, .int .i64 0, .int .i64 0, .pointer none, .pointer none] 177) = w1 at *
  have lte := hq.lt
  have e7 : w1.cell? ⟨w.heap.size, 7, none⟩ = some (.pointer none) := hq.cellv 7 rfl
  have e8 : w1.cell? ⟨w.heap.size, 8, none⟩ = some (.pointer none) := hq.cellv 8 rfl
  have f7 := hq.frozen 7
  have f8 := hq.frozen 8
  obtain ⟨q1, g1⟩ := blk_store hq 7 (.pointer (some ⟨w.heap.size, 0, none⟩))
  obtain ⟨q2, g2⟩ := blk_store q1 8 (.pointer (some ⟨w.heap.size, 0, none⟩))
  have hB2 := below_own (below_own hB g1 hB.size (Nat.le_refl _)) g2 (Nat.le_trans hB.size g1.size) (Nat.le_refl _)
  replace q2 := Lib.hid q2
  replace hB2 := Lib.hid hB2
  clear q1 g1 g2 hB
  go_upto_region 5 with (fail)
  replace q2 := q2.out
  replace hB2 := hB2.out
  clear e7 e8 f7 f8 lte hq
  generalize World.setCell _ _ _ = w2 at *
  have hz2 := hB2.size
  have lte := q2.lt
  have hq3 := (q2.alloc (.map #[] 0)).alloc (.cells (tabC ro idl 0 w2.heap.size w.heap.size 0 0) 76)
  have hm := (Ent.made (P := Try.prog) (K := 57) w2).alloc (.cells (tabC ro idl 0 w2.heap.size w.heap.size 0 0) 76)
  have ht := Blk.new (w2.alloc (.map #[] 0)) 76 (tabC ro idl 0 w2.heap.size w.heap.size 0 0)
  have hB3 := (hB2.alloc hz2 (.map #[] 0)).alloc (by simp; omega) (.cells (tabC ro idl 0 w2.heap.size w.heap.size 0 0) 76)
  rw [show (w2.alloc (.map #[] 0)).heap.size = w2.heap.size + 1 by simp] at ht
  replace hq3 := Lib.hid hq3
  replace hm := Lib.hid hm
  replace ht := Lib.hid ht
  replace hB3 := Lib.hid hB3
  go_wp2_with fail
  go_ret
  refine ⟨w2.heap.size + 1, w2.heap.size, w.heap.size, rfl, ⟨ht.out, fun k hk => ?_, ⟨rfl, rfl, trivial⟩, by simp, ⟨[], hm.out, .nil⟩, by simp⟩, by omega, by omega, Nat.le_refl _, hB3.out⟩
  rw [List.mem_singleton] at hk
  subst hk
  exact hq3.out
set_option maxRecDepth 100000 in
theorem lenF_in {w : World} {g m e : Nat} {ro idl now ca we : Int} {l : List Nat} {dt : Nat → EnV} {bk nx : Nat → Nat} (h : RingV w g m e ro idl now ca we l dt bk nx) :
    Calls Try.prog 47 #[.pointer (some ⟨g, 0, none⟩)] w fun en w' => en = .returned (.int .i64 l.length) ∧ w = w' := by
  have c3 : w.cell? ⟨g, 3, none⟩ = some (.map (some m)) := h.blk.cellv 3 rfl
  obtain ⟨A, ha, hp⟩ := h.ent
  have hlen := fun ty => ha.len fmap_und ty
  rw [hp.length_eq, List.length_map] at hlen
  go_enter Try.func47, Try.ntmps47
  go_wp2_with (go_at_call 113; refine (madeF_in h).mono ?_; rintro en w' ⟨rfl, rfl⟩)
  go_ret
  exact ⟨rfl, rfl⟩
set_option maxRecDepth 100000 in
set_option maxHeartbeats 4000000 in
theorem goneF_any {w : World} {g m e : Nat} {ro idl now ca we : Int} {dt : Nat → EnV} {bk nx : Nat → Nat} {p q : List Nat} {x : Nat} (h : RingV w g m e ro idl now ca we (p ++ x :: q) dt bk nx) :
    Calls Try.prog 120 #[.pointer (some ⟨g, 0, none⟩), .pointer (some ⟨x, 0, none⟩)] w fun en w' => en = .returned (.tuple #[]) ∧ RingV w' g m e ro idl now ca we (p ++ q) dt (upd bk (nx x) (bk x)) (upd nx (bk x) (nx x)) ∧ Chg w w' (fun k => k = m ∨ k ∈ e :: (p ++ x :: q)) ∧ Blk w' x 177 (lnkC (dt x) (bk x) (nx x)) := by
  obtain ⟨⟨u, hu⟩, v, hv⟩ := cyc_at h.cyc
  have hxN : x ∈ e :: (p ++ x :: q) := by simp
  have hbN : bk x ∈ e :: (p ++ x :: q) := by
    have : bk x ∈ e :: p := by rw [hu]; simp
    rcases List.mem_cons.1 this with q1 | q1
    · rw [q1]; simp
    · exact List.mem_cons_of_mem _ (List.mem_append_left _ q1)
  have hnN : nx x ∈ e :: (p ++ x :: q) := by
    have : nx x ∈ q ++ [e] := by rw [hv]; simp
    rcases List.mem_append.1 this with q1 | q1
    · exact List.mem_cons_of_mem _ (List.mem_append_right _ (List.mem_cons_of_mem _ q1))
    · rw [List.mem_singleton] at q1; rw [q1]; simp
  have hcyc := cyc_out h.cyc h.nd
  have hgN := h.gN
  have hmN := h.mN
  have hgm := h.gm
  replace hu := Lib.hid hu
  replace hv := Lib.hid hv
  have hxn : x ≠ nx x ∧ x ≠ bk x := by
    have hnd := h.nd
    rw [List.nodup_cons, List.mem_append, List.mem_cons, List.nodup_append, List.nodup_cons] at hnd
    obtain ⟨n1, n2, ⟨n3, n4⟩, n5⟩ := hnd
    have hxe : x ≠ e := fun e1 => n1 (.inr (.inl e1.symm))
    constructor
    · intro e1
      have : x ∈ q ++ [e] := by rw [hv.out, ← e1]; simp
      rcases List.mem_append.1 this with q1 | q1
      · exact n3 q1
      · exact hxe (by simpa using q1)
    · intro e1
      have : x ∈ e :: p := by rw [hu.out, ← e1]; simp
      rcases List.mem_cons.1 this with q1 | q1
      · exact hxe q1
      · exact n5 x q1 x (by simp) rfl
  go_enter Try.func120, Try.ntmps120
  go_upto_region 1 with (go_at_call 116; refine (out_any w _ dt bk nx h.nod x hxN hbN hnN).mono ?_; rintro en w1 ⟨rfl, hN1, hC1⟩)
  have hg1 := hC1.blk h.blk hgN
  obtain ⟨A, ha, hp⟩ := h.ent
  have ha1 := hC1.ent ha hmN
  have hx1 := hN1 x hxN
  rw [upd_other _ _ hxn.1, upd_other _ _ hxn.2] at hx1
  have hok := h.ok
  have hkx : FloOk (dt x).fl := hok x (by simp)
  obtain ⟨kl, hkl⟩ := flo_lit _ hkx
  have hin : keyE dt x ∈ A := hp.mem_iff.2 (List.mem_map.2 ⟨x, by simp, rfl⟩)
  obtain ⟨j, hj⟩ := List.getElem?_of_mem hin
  have hj' : A[j]? = some (floV (dt x).fl, .pointer (some ⟨x, 0, none⟩)) := hj
  have c3 : w1.cell? ⟨g, 3, none⟩ = some (.map (some m)) := hg1.cellv 3 rfl
  have x0 : w1.cell? ⟨x, 0, none⟩ = some (.int .i64 (dt x).fl.pr) := hx1.cellv 0 rfl
  have x1 : w1.cell? ⟨x, 1, none⟩ = some (.int .u32 (dt x).fl.src) := hx1.cellv 1 rfl
  have x2 : w1.cell? ⟨x, 2, none⟩ = some (.int .u32 (dt x).fl.dst) := hx1.cellv 2 rfl
  have x3 : w1.cell? ⟨x, 3, none⟩ = some (.int .i64 (dt x).fl.sp) := hx1.cellv 3 rfl
  have x4 : w1.cell? ⟨x, 4, none⟩ = some (.int .i64 (dt x).fl.dp) := hx1.cellv 4 rfl
  have ltg := hg1.lt
  have ltx := hx1.lt
  have hxm : x ≠ m := fun q1 => hmN (q1 ▸ hxN)
  have hnd := h.nd
  replace hcyc := Lib.hid hcyc
  replace hp := Lib.hid hp
  replace hok := Lib.hid hok
  clear hj hin hu hv hxn h ha hkx
  -- region 1: 0 1 2 3 4 5 6 7 8 9M
  try refine wp_region_noPanic ?_
  have hs1r : w1.grownBy w1.drew (some m) := grown_drew (grown_refl _ _)
  refine wp_region_held_drew (S := fun w' => w1.grownBy w' (some m)) (by kernel_rfl) hs1r (fun _ => ?_)
  (refine held_takeA 0 (by rfl) ?_ (by kernel_rfl) (fun _ _ _ h => h) hs1r ?_ ?_; rotate_left; (focus (intro wq hSw; have hrd : ∀ b' o, b' < w1.heap.size → b' ≠ m → wq.cell? ⟨b', o, none⟩ = w1.cell? ⟨b', o, none⟩ := (fun b' o h hne => grown_cell hSw h hne); go_simp; try with_reducible rfl; done)); try simp only [Act.put, List.setIfInBounds_toArray, List.set_cons_zero, List.set_cons_succ])
  (refine held_takeA 1 (by rfl) ?_ (by kernel_rfl) (fun _ _ _ h => h) hs1r ?_ ?_; rotate_left; (focus (intro wq hSw; have hrd : ∀ b' o, b' < w1.heap.size → b' ≠ m → wq.cell? ⟨b', o, none⟩ = w1.cell? ⟨b', o, none⟩ := (fun b' o h hne => grown_cell hSw h hne); go_simp; try with_reducible rfl; done)); try simp only [Act.put, List.setIfInBounds_toArray, List.set_cons_zero, List.set_cons_succ])
  (refine held_takeA 2 (by rfl) ?_ (by kernel_rfl) (fun _ _ _ h => h) hs1r ?_ ?_; rotate_left; (focus (intro wq hSw; have hrd : ∀ b' o, b' < w1.heap.size → b' ≠ m → wq.cell? ⟨b', o, none⟩ = w1.cell? ⟨b', o, none⟩ := (fun b' o h hne => grown_cell hSw h hne); go_simp; try with_reducible rfl; done)); try simp only [Act.put, List.setIfInBounds_toArray, List.set_cons_zero, List.set_cons_succ])
  (refine held_takeA 3 (by rfl) ?_ (by kernel_rfl) (fun _ _ _ h => h) hs1r ?_ ?_; rotate_left; (focus (intro wq hSw; have hrd : ∀ b' o, b' < w1.heap.size → b' ≠ m → wq.cell? ⟨b', o, none⟩ = w1.cell? ⟨b', o, none⟩ := (fun b' o h hne => grown_cell hSw h hne); go_simp; try with_reducible rfl; done)); try simp only [Act.put, List.setIfInBounds_toArray, List.set_cons_zero, List.set_cons_succ])
  (refine held_takeA 4 (by rfl) ?_ (by kernel_rfl) (fun _ _ _ h => h) hs1r ?_ ?_; rotate_left; (focus (intro wq hSw; have hrd : ∀ b' o, b' < w1.heap.size → b' ≠ m → wq.cell? ⟨b', o, none⟩ = w1.cell? ⟨b', o, none⟩ := (fun b' o h hne => grown_cell hSw h hne); go_simp; try with_reducible rfl; done)); try simp only [Act.put, List.setIfInBounds_toArray, List.set_cons_zero, List.set_cons_succ])
  (refine held_takeA 5 (by rfl) ?_ (by kernel_rfl) (fun _ _ _ h => h) hs1r ?_ ?_; rotate_left; (focus (intro wq hSw; have hrd : ∀ b' o, b' < w1.heap.size → b' ≠ m → wq.cell? ⟨b', o, none⟩ = w1.cell? ⟨b', o, none⟩ := (fun b' o h hne => grown_cell hSw h hne); go_simp; try with_reducible rfl; done)); try simp only [Act.put, List.setIfInBounds_toArray, List.set_cons_zero, List.set_cons_succ])
  (refine held_takeA 6 (by rfl) ?_ (by kernel_rfl) (fun _ _ _ h => h) hs1r ?_ ?_; rotate_left; (focus (intro wq hSw; have hrd : ∀ b' o, b' < w1.heap.size → b' ≠ m → wq.cell? ⟨b', o, none⟩ = w1.cell? ⟨b', o, none⟩ := (fun b' o h hne => grown_cell hSw h hne); go_simp; try with_reducible rfl; done)); try simp only [Act.put, List.setIfInBounds_toArray, List.set_cons_zero, List.set_cons_succ])
  (refine held_takeA 7 (by rfl) ?_ (by kernel_rfl) (fun _ _ _ h => h) hs1r ?_ ?_; rotate_left; (focus (intro wq hSw; have hrd : ∀ b' o, b' < w1.heap.size → b' ≠ m → wq.cell? ⟨b', o, none⟩ = w1.cell? ⟨b', o, none⟩ := (fun b' o h hne => grown_cell hSw h hne); go_simp; try with_reducible rfl; done)); try simp only [Act.put, List.setIfInBounds_toArray, List.set_cons_zero, List.set_cons_succ])
  (refine held_takeA 8 (by rfl) ?_ (by kernel_rfl) (fun _ _ _ h => h) hs1r ?_ ?_; rotate_left; (focus (intro wq hSw; have hrd : ∀ b' o, b' < w1.heap.size → b' ≠ m → wq.cell? ⟨b', o, none⟩ = w1.cell? ⟨b', o, none⟩ := (fun b' o h hne => grown_cell hSw h hne); go_simp; try with_reducible rfl; done)); try simp only [Act.put, List.setIfInBounds_toArray, List.set_cons_zero, List.set_cons_succ])
  refine held_callA 9 (by rfl) (by kernel_rfl) (by rfl) (fun KQ hKQ => ?_)
  refine wp_del_hit ha1.drew fkey fmap_und (.tmp 9) (.tmp 14) (by rfl) (by rfl) (by rfl) hkl hj' ?_
  intro w2 ha2 hg2
  refine hKQ.out _ _ (grown_trans hs1r hg2) (held_mono (S' := fun w' => w2.grownBy w' (some m)) (fun w' h => grown_trans (grown_trans hs1r hg2) h) _ _ _ _ ?_)
  clear hKQ KQ
  have hs2r : w2.grownBy w2 (some m) := grown_refl _ _
  try simp only [Act.put]
  refine wpAnyH_done (by kernel_rfl) ?_ _
  try refine NoPanic.normal ?_
  go_end0
  have hg12 : w1.grownBy w2 (some m) := grown_trans (grown_drew (grown_refl w1 (some m))) hg2
  have hC2 : Chg w1 w2 (fun k => k = m) := Chg.of_grown hg12 rfl
  have hpe : (A.eraseIdx j).Perm ((p ++ q).map (keyE dt)) := by
    have h1 : A.Perm (keyE dt x :: A.eraseIdx j) := by
      obtain ⟨hl, e1⟩ := List.getElem?_eq_some_iff.1 hj'
      have := List.perm_middle (a := A[j]) (l₁ := A.take j) (l₂ := A.drop (j + 1))
      rw [← List.drop_eq_getElem_cons hl, List.take_append_drop] at this
      rw [List.eraseIdx_eq_take_drop_succ]
      rw [e1] at this
      exact this
    have h2 : ((p ++ x :: q).map (keyE dt)).Perm (keyE dt x :: (p ++ q).map (keyE dt)) := by
      rw [← List.map_cons]; exact List.perm_middle.map _
    exact ((h1.symm.trans hp.out).trans h2).cons_inv
  have hsub : ∀ k ∈ e :: (p ++ q), k ∈ e :: (p ++ x :: q) := fun k hk => by
    rcases List.mem_cons.1 hk with q1 | q1
    · rw [q1]; simp
    · rcases List.mem_append.1 q1 with q1 | q1
      · exact List.mem_cons_of_mem _ (List.mem_append_left _ q1)
      · exact List.mem_cons_of_mem _ (List.mem_append_right _ (List.mem_cons_of_mem _ q1))
  have hCm : Chg w w1 (fun k => k = m ∨ k ∈ e :: (p ++ x :: q)) := hC1.mono fun _ _ q1 => .inr q1
  refine ⟨rfl, ⟨hC2.blk hg1 hgm, fun k hk => hC2.blk (hN1 k (hsub k hk)) (fun q1 => hmN (q1 ▸ hsub k hk)), hcyc.out, ?_, ⟨_, ha2, hpe⟩, fun k hk => hok.out k ?_⟩, hCm.trans hC2 (fun i hi q1 => .inl q1), hC2.blk hx1 hxm⟩
  · refine hnd.sublist ?_
    exact (List.Sublist.append (List.Sublist.refl p) (List.sublist_cons_self x q)).cons_cons e
  · rcases List.mem_append.1 hk with q1 | q1
    · exact List.mem_append_left _ q1
    · exact List.mem_append_right _ (List.mem_cons_of_mem _ q1)
end Go.Proofs.Ytejgekoinbdhjaa
