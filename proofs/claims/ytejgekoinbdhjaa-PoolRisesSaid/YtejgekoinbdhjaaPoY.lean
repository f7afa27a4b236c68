/- pool: the document's Copy and Remove. -/
import Derived.Test.YtejgekoinbdhjaaPoX
import Derived.Test.YtejgekoinbdhjaaRowC
import Derived.Test.YtejgekoinbdhjaaDrawE
namespace Go.Proofs.Ytejgekoinbdhjaa
set_option linter.unusedVariables false
open Go Go.RowKit Go.Maps

theorem elem_row : Try.prog.underlying 169 = some (.slice (Try.prog.elem 169)) := by kernel_rfl
theorem size_row (w : World) : (sizeOf (Try.prog.elem 169)).run Try.prog w = .ok memK.size w := by kernel_rfl
theorem eraseIdx_td {α : Type} (l : List α) (k : Nat) : l.take k ++ l.drop (k + 1) = l.eraseIdx k := by
  rw [List.eraseIdx_eq_take_drop_succ]
set_option maxRecDepth 100000 in
set_option maxHeartbeats 2000000 in
theorem refCopy25 (w : World) (X Y : Nat → Prop) (g : Nat) (pc : Int) (L : List Mem) (h : RefIn w X g pc L) (hn : L.length ≤ 100000) (hY : ∀ b, w.heap.size ≤ b → Y b) :
    Calls Try.prog 37 #[.pointer (some ⟨g, 0, none⟩)] w fun e w' => ∃ g2, e = .returned (.pointer (some ⟨g2, 0, none⟩)) ∧ RefIn w' Y g2 pc L ∧ w.heap.size ≤ g2 ∧ Below w.heap.size w w' := by
  obtain ⟨A, n, c, hnc, hcm, hq, hS⟩ := h
  have hln := Lib.hid hS.1
  have hn9 : n ≤ 100000 := by have := hS.1; omega
  have c0 : w.cell? ⟨g, 0, none⟩ = some (.int .i64 pc) := hq.cellv 0 rfl
  have c1 : w.cell? ⟨g, 1, none⟩ = some (.slice A n c) := hq.cellv 1 rfl
  have ltg := hq.lt
  go_enter Try.func37, Try.ntmps37
  go_upto_region 1 with (fail)
  -- region 1: 0 1 2 3 4M 5 6 7 8 9M 10 11M 12
  try refine wp_region_noPanic ?_
  have hs1r : (fun w' => Below w.heap.size w w') w.drew := (Below.refl _ _).drew
  refine wp_region_held_drew (S := fun w' => Below w.heap.size w w') (by kernel_rfl) hs1r (fun _ => ?_)
  (refine held_takeA 0 (by rfl) ?_ (by kernel_rfl) (fun _ _ _ h => h) hs1r ?_ ?_; rotate_left; (focus (intro wq hSw; have hrd := hSw; have hrd2 : ∀ b o, b < w.heap.size → wq.cell? ⟨b, o, none⟩ = w.cell? ⟨b, o, none⟩ := (fun b o h => Below.cell hSw (p := ⟨b, o, none⟩) h); go_simp; try with_reducible rfl; done)); try simp only [Act.put, List.setIfInBounds_toArray, List.set_cons_zero, List.set_cons_succ])
  (refine held_takeA 1 (by rfl) ?_ (by kernel_rfl) (fun _ _ _ h => h) hs1r ?_ ?_; rotate_left; (focus (intro wq hSw; have hrd := hSw; have hrd2 : ∀ b o, b < w.heap.size → wq.cell? ⟨b, o, none⟩ = w.cell? ⟨b, o, none⟩ := (fun b o h => Below.cell hSw (p := ⟨b, o, none⟩) h); go_simp; try with_reducible rfl; done)); try simp only [Act.put, List.setIfInBounds_toArray, List.set_cons_zero, List.set_cons_succ])
  (refine held_takeA 2 (by rfl) ?_ (by kernel_rfl) (fun _ _ _ h => h) hs1r ?_ ?_; rotate_left; (focus (intro wq hSw; have hrd := hSw; have hrd2 : ∀ b o, b < w.heap.size → wq.cell? ⟨b, o, none⟩ = w.cell? ⟨b, o, none⟩ := (fun b o h => Below.cell hSw (p := ⟨b, o, none⟩) h); go_simp; try with_reducible rfl; done)); try simp only [Act.put, List.setIfInBounds_toArray, List.set_cons_zero, List.set_cons_succ])
  (refine held_takeA 3 (by rfl) ?_ (by kernel_rfl) (fun _ _ _ h => h) hs1r ?_ ?_; rotate_left; (focus (intro wq hSw; have hrd := hSw; have hrd2 : ∀ b o, b < w.heap.size → wq.cell? ⟨b, o, none⟩ = w.cell? ⟨b, o, none⟩ := (fun b o h => Below.cell hSw (p := ⟨b, o, none⟩) h); go_simp; try with_reducible rfl; done)); try simp only [Act.put, List.setIfInBounds_toArray, List.set_cons_zero, List.set_cons_succ])
  (refine held_takeA 5 (by rfl) ?_ (by kernel_rfl) (fun _ _ _ h => h) hs1r ?_ ?_; rotate_left; (focus (intro wq hSw; have hrd := hSw; have hrd2 : ∀ b o, b < w.heap.size → wq.cell? ⟨b, o, none⟩ = w.cell? ⟨b, o, none⟩ := (fun b o h => Below.cell hSw (p := ⟨b, o, none⟩) h); go_simp; try with_reducible rfl; done)); try simp only [Act.put, List.setIfInBounds_toArray, List.set_cons_zero, List.set_cons_succ])
  (refine held_takeA 6 (by rfl) ?_ (by kernel_rfl) (fun _ _ _ h => h) hs1r ?_ ?_; rotate_left; (focus (intro wq hSw; have hrd := hSw; have hrd2 : ∀ b o, b < w.heap.size → wq.cell? ⟨b, o, none⟩ = w.cell? ⟨b, o, none⟩ := (fun b o h => Below.cell hSw (p := ⟨b, o, none⟩) h); go_simp; try with_reducible rfl; done)); try simp only [Act.put, List.setIfInBounds_toArray, List.set_cons_zero, List.set_cons_succ])
  (refine held_takeA 7 (by rfl) ?_ (by kernel_rfl) (fun _ _ _ h => h) hs1r ?_ ?_; rotate_left; (focus (intro wq hSw; have hrd := hSw; have hrd2 : ∀ b o, b < w.heap.size → wq.cell? ⟨b, o, none⟩ = w.cell? ⟨b, o, none⟩ := (fun b o h => Below.cell hSw (p := ⟨b, o, none⟩) h); go_simp; try with_reducible rfl; done)); try simp only [Act.put, List.setIfInBounds_toArray, List.set_cons_zero, List.set_cons_succ])
  (refine held_takeA 8 (by rfl) ?_ (by kernel_rfl) (fun _ _ _ h => h) hs1r ?_ ?_; rotate_left; (focus (intro wq hSw; have hrd := hSw; have hrd2 : ∀ b o, b < w.heap.size → wq.cell? ⟨b, o, none⟩ = w.cell? ⟨b, o, none⟩ := (fun b o h => Below.cell hSw (p := ⟨b, o, none⟩) h); go_simp; try with_reducible rfl; done)); try simp only [Act.put, List.setIfInBounds_toArray, List.set_cons_zero, List.set_cons_succ])
  refine held_callA 4 (by rfl) (by kernel_rfl) (by rfl) (fun KQ hKQ => ?_)
  go_simp
  have hb1 := (Below.refl w.heap.size w).drew.alloc (Nat.le_refl _) (.cells #[] 173)
  have hr0 := rows_lit5 w.drew
  have hS1 := hS.below hb1 fun b q => q.2
  have hd : (w.alloc (.cells #[] 173)).drew = w.drew.alloc (.cells #[] 173) := rfl
  try rw [hd]
  have hzz := hb1.size
  generalize w.drew.alloc (.cells #[] 173) = w1 at *
  clear hd
  have hs2r := hb1
  refine hKQ.out _ _ hs2r ?_
  clear hKQ KQ
  try simp only [Act.put, List.setIfInBounds_toArray, List.set_cons_zero, List.set_cons_succ]
  refine held_callA 9 (by rfl) (by kernel_rfl) (by rfl) (fun KQ hKQ => ?_)
  refine wp_rows memRow_ok (.tmp 7) (.tmp 11) (by rfl) hr0 (by rfl) (by rfl) hS1 (fun _ _ => trivial) (by unfold maxLen; simp; omega) (by simp; omega) hzz ?_
  intro v2 w2 hv2 hg2
  rw [List.nil_append] at hv2
  have hb2 := hb1.trans (hr0.below_app hg2 hzz)
  obtain ⟨A2, c2, e2, hc2, hcm2, hS2⟩ := hv2.seen (Nat.le_refl _)
  subst e2
  have hs3r := hb2
  refine hKQ.out _ _ hs3r ?_
  clear hKQ KQ
  try simp only [Act.put, List.setIfInBounds_toArray, List.set_cons_zero, List.set_cons_succ]
  (refine held_takeA 10 (by rfl) ?_ (by kernel_rfl) (fun _ _ _ h => h) hs3r ?_ ?_; rotate_left; (focus (intro wq hSw; have hrd := hSw; have hrd2 : ∀ b o, b < w.heap.size → wq.cell? ⟨b, o, none⟩ = w.cell? ⟨b, o, none⟩ := (fun b o h => Below.cell hSw (p := ⟨b, o, none⟩) h); go_simp; try with_reducible rfl; done)); try simp only [Act.put, List.setIfInBounds_toArray, List.set_cons_zero, List.set_cons_succ])
  refine held_callA 11 (by rfl) (by kernel_rfl) (by rfl) (fun KQ hKQ => ?_)
  go_simp
  have hb3 := hb2.alloc hb2.size (.cells #[.int .i64 pc, .slice A2 L.length c2] 171)
  have hq3 := Blk.new w2 171 #[.int .i64 pc, .slice A2 L.length c2]
  have hS3 := hS2.below (w' := w2.alloc (.cells #[.int .i64 pc, .slice A2 L.length c2] 171)) ((Below.refl _ _).alloc (Nat.le_refl _) _) fun b q => q.2
  have hz3 : w2.heap.size ≤ (w2.alloc (.cells #[.int .i64 pc, .slice A2 L.length c2] 171)).heap.size := by simp
  generalize w2.alloc (.cells #[.int .i64 pc, .slice A2 L.length c2] 171) = w3 at *
  have hs4r := hb3
  refine hKQ.out _ _ hs4r ?_
  clear hKQ KQ
  try simp only [Act.put, List.setIfInBounds_toArray, List.set_cons_zero, List.set_cons_succ]
  (refine held_takeA 12 (by rfl) ?_ (by kernel_rfl) (fun _ _ _ h => h) hs4r ?_ ?_; rotate_left; (focus (intro wq hSw; have hrd := hSw; have hrd2 : ∀ b o, b < w.heap.size → wq.cell? ⟨b, o, none⟩ = w.cell? ⟨b, o, none⟩ := (fun b o h => Below.cell hSw (p := ⟨b, o, none⟩) h); go_simp; try with_reducible rfl; done)); try simp only [Act.put, List.setIfInBounds_toArray, List.set_cons_zero, List.set_cons_succ])
  refine wpAnyH_done (by kernel_rfl) ?_ _
  try refine NoPanic.normal ?_
  go_wp2_with fail
  go_ret
  exact ⟨_, rfl, ⟨A2, L.length, c2, hc2, hcm2, hq3, hS3.more fun b q => ⟨hY b q.1, Nat.lt_of_lt_of_le q.2 hz3⟩⟩, hb2.size, hb3⟩
set_option maxRecDepth 100000 in
set_option maxHeartbeats 4000000 in
theorem refRemove25 (w : World) (X : Nat → Prop) (g : Nat) (pc : Int) (L : List Mem) (id : Int) (h : RefIn w X g pc L) (hn : L.length ≤ 100000) (hX : ∀ b, w.heap.size ≤ b → X b) :
    Calls Try.prog 101 #[.pointer (some ⟨g, 0, none⟩), .int .i64 id] w fun e w' => e = .returned (.bool (remR L id).1) ∧ RefIn w' X g pc (remR L id).2 ∧ w.grownBy w' (some g) := by
  go_enter Try.func101, Try.ntmps101
  go_upto_region 2 with (go_at_call 106; refine (refFind25 w X g pc L id h hn).mono ?_; rintro e w2 ⟨rfl, hb⟩)
  have h2 := h.nx hb
  cases hf : findF L id with
  | none =>
    have hz : findZ L id = -1 := by unfold findZ; rw [hf]
    have e : remR L id = (false, L) := by unfold remR; rw [hf]
    rw [hz]
    replace e := Lib.hid e
    go_wp2_with fail
    go_ret
    rw [e.out]
    exact ⟨rfl, h2, grown_of_below hb (Nat.le_refl _) _⟩
  | some k =>
    obtain ⟨m, hm, -⟩ := findF_get hf
    have hz : findZ L id = (k : Int) := by unfold findZ; rw [hf]
    have e : remR L id = (true, L.eraseIdx k) := by unfold remR; rw [hf]
    replace e := Lib.hid e
    rw [hz]
    have hkl : k < L.length := (List.getElem?_eq_some_iff.1 hm).1
    obtain ⟨A, n, c, hnc, hcm, hq, hS⟩ := h2
    have hln := hS.1
    have c1 : w2.cell? ⟨g, 1, none⟩ = some (.slice A n c) := hq.cellv 1 rfl
    have ltg := hq.lt
    have d0 : decide ((k : Int) < 0) = false := by simp
    have hn9 : n ≤ 100000 := by omega
    obtain ⟨A1, hs1, hr1⟩ := row_take elem_row size_row A n c k (by omega) hnc
    obtain ⟨A2, hs2, hr2⟩ := row_drop elem_row size_row A n c (k + 1) (by omega) hnc
    rw [show ((k + 1 : Nat) : Int) = (k : Int) + 1 by omega] at hs2
    have hS1 := hr1 _ _ _ hS
    have hS2 := hr2 _ _ _ hS
    clear hr1 hr2 hf hz
    have hki : (k : Int) < n := by omega
    have kw : IntKind.i64.wrap ((k : Int) + 1) = (k : Int) + 1 := IntWalk.i64_in _ (by omega)
    replace hln := Lib.hid hln
    go_upto_region 4 with (fail)
    -- region 4: 0 1M 2 3 4 5 6 7 8M 9 10 11 12 13 14 15 16M 17 18 19M
    try refine wp_region_noPanic ?_
    have hs5r : (fun w' => Below w2.heap.size w2 w') w2.drew := (Below.refl _ _).drew
    refine wp_region_E 19 (S := fun w' => Below w2.heap.size w2 w') (by kernel_rfl) hs5r (fun _ => ?_)
    (refine e_takeA 0 (by rfl) ?_ (by kernel_rfl) (fun _ _ _ h => h) hs5r ?_ ?_; rotate_left; (focus (intro wq hSw; have hrd := hSw; have hrd2 : ∀ b o, b < w2.heap.size → wq.cell? ⟨b, o, none⟩ = w2.cell? ⟨b, o, none⟩ := (fun b o h => Below.cell hSw (p := ⟨b, o, none⟩) h); go_simp; try with_reducible rfl; done)); try simp only [Act.put, List.setIfInBounds_toArray, List.set_cons_zero, List.set_cons_succ])
    (refine e_takeA 2 (by rfl) ?_ (by kernel_rfl) (fun _ _ _ h => h) hs5r ?_ ?_; rotate_left; (focus (intro wq hSw; have hrd := hSw; have hrd2 : ∀ b o, b < w2.heap.size → wq.cell? ⟨b, o, none⟩ = w2.cell? ⟨b, o, none⟩ := (fun b o h => Below.cell hSw (p := ⟨b, o, none⟩) h); go_simp; try with_reducible rfl; done)); try simp only [Act.put, List.setIfInBounds_toArray, List.set_cons_zero, List.set_cons_succ])
    (refine e_takeA 3 (by rfl) ?_ (by kernel_rfl) (fun _ _ _ h => h) hs5r ?_ ?_; rotate_left; (focus (intro wq hSw; have hrd := hSw; have hrd2 : ∀ b o, b < w2.heap.size → wq.cell? ⟨b, o, none⟩ = w2.cell? ⟨b, o, none⟩ := (fun b o h => Below.cell hSw (p := ⟨b, o, none⟩) h); go_simp; try with_reducible rfl; done)); try simp only [Act.put, List.setIfInBounds_toArray, List.set_cons_zero, List.set_cons_succ])
    (refine e_takeA 4 (by rfl) ?_ (by kernel_rfl) (fun _ _ _ h => h) hs5r ?_ ?_; rotate_left; (focus (intro wq hSw; have hrd := hSw; have hrd2 : ∀ b o, b < w2.heap.size → wq.cell? ⟨b, o, none⟩ = w2.cell? ⟨b, o, none⟩ := (fun b o h => Below.cell hSw (p := ⟨b, o, none⟩) h); go_simp; try with_reducible rfl; done)); try simp only [Act.put, List.setIfInBounds_toArray, List.set_cons_zero, List.set_cons_succ])
    (refine e_takeA 5 (by rfl) ?_ (by kernel_rfl) (fun _ _ _ h => h) hs5r ?_ ?_; rotate_left; (focus (intro wq hSw; have hrd := hSw; have hrd2 : ∀ b o, b < w2.heap.size → wq.cell? ⟨b, o, none⟩ = w2.cell? ⟨b, o, none⟩ := (fun b o h => Below.cell hSw (p := ⟨b, o, none⟩) h); go_simp; try with_reducible rfl; done)); try simp only [Act.put, List.setIfInBounds_toArray, List.set_cons_zero, List.set_cons_succ])
    (refine e_takeA 6 (by rfl) ?_ (by kernel_rfl) (fun _ _ _ h => h) hs5r ?_ ?_; rotate_left; (focus (intro wq hSw; have hrd := hSw; have hrd2 : ∀ b o, b < w2.heap.size → wq.cell? ⟨b, o, none⟩ = w2.cell? ⟨b, o, none⟩ := (fun b o h => Below.cell hSw (p := ⟨b, o, none⟩) h); go_simp; try with_reducible rfl; done)); try simp only [Act.put, List.setIfInBounds_toArray, List.set_cons_zero, List.set_cons_succ])
    (refine e_takeA 7 (by rfl) ?_ (by kernel_rfl) (fun _ _ _ h => h) hs5r ?_ ?_; rotate_left; (focus (intro wq hSw; have hrd := hSw; have hrd2 : ∀ b o, b < w2.heap.size → wq.cell? ⟨b, o, none⟩ = w2.cell? ⟨b, o, none⟩ := (fun b o h => Below.cell hSw (p := ⟨b, o, none⟩) h); go_simp; try with_reducible rfl; done)); try simp only [Act.put, List.setIfInBounds_toArray, List.set_cons_zero, List.set_cons_succ])
    (refine e_takeA 9 (by rfl) ?_ (by kernel_rfl) (fun _ _ _ h => h) hs5r ?_ ?_; rotate_left; (focus (intro wq hSw; have hrd := hSw; have hrd2 : ∀ b o, b < w2.heap.size → wq.cell? ⟨b, o, none⟩ = w2.cell? ⟨b, o, none⟩ := (fun b o h => Below.cell hSw (p := ⟨b, o, none⟩) h); go_simp; try with_reducible rfl; done)); try simp only [Act.put, List.setIfInBounds_toArray, List.set_cons_zero, List.set_cons_succ])
    (refine e_takeA 10 (by rfl) ?_ (by kernel_rfl) (fun _ _ _ h => h) hs5r ?_ ?_; rotate_left; (focus (intro wq hSw; have hrd := hSw; have hrd2 : ∀ b o, b < w2.heap.size → wq.cell? ⟨b, o, none⟩ = w2.cell? ⟨b, o, none⟩ := (fun b o h => Below.cell hSw (p := ⟨b, o, none⟩) h); go_simp; try with_reducible rfl; done)); try simp only [Act.put, List.setIfInBounds_toArray, List.set_cons_zero, List.set_cons_succ])
    (refine e_takeA 11 (by rfl) ?_ (by kernel_rfl) (fun _ _ _ h => h) hs5r ?_ ?_; rotate_left; (focus (intro wq hSw; have hrd := hSw; have hrd2 : ∀ b o, b < w2.heap.size → wq.cell? ⟨b, o, none⟩ = w2.cell? ⟨b, o, none⟩ := (fun b o h => Below.cell hSw (p := ⟨b, o, none⟩) h); go_simp; try with_reducible rfl; done)); try simp only [Act.put, List.setIfInBounds_toArray, List.set_cons_zero, List.set_cons_succ])
    (refine e_takeA 12 (by rfl) ?_ (by kernel_rfl) (fun _ _ _ h => h) hs5r ?_ ?_; rotate_left; (focus (intro wq hSw; have hrd := hSw; have hrd2 : ∀ b o, b < w2.heap.size → wq.cell? ⟨b, o, none⟩ = w2.cell? ⟨b, o, none⟩ := (fun b o h => Below.cell hSw (p := ⟨b, o, none⟩) h); go_simp; try with_reducible rfl; done)); try simp only [Act.put, List.setIfInBounds_toArray, List.set_cons_zero, List.set_cons_succ])
    (refine e_takeA 13 (by rfl) ?_ (by kernel_rfl) (fun _ _ _ h => h) hs5r ?_ ?_; rotate_left; (focus (intro wq hSw; have hrd := hSw; have hrd2 : ∀ b o, b < w2.heap.size → wq.cell? ⟨b, o, none⟩ = w2.cell? ⟨b, o, none⟩ := (fun b o h => Below.cell hSw (p := ⟨b, o, none⟩) h); go_simp; try with_reducible rfl; done)); try simp only [Act.put, List.setIfInBounds_toArray, List.set_cons_zero, List.set_cons_succ])
    (refine e_takeA 14 (by rfl) ?_ (by kernel_rfl) (fun _ _ _ h => h) hs5r ?_ ?_; rotate_left; (focus (intro wq hSw; have hrd := hSw; have hrd2 : ∀ b o, b < w2.heap.size → wq.cell? ⟨b, o, none⟩ = w2.cell? ⟨b, o, none⟩ := (fun b o h => Below.cell hSw (p := ⟨b, o, none⟩) h); go_simp; try with_reducible rfl; done)); try simp only [Act.put, List.setIfInBounds_toArray, List.set_cons_zero, List.set_cons_succ])
    (refine e_takeA 15 (by rfl) ?_ (by kernel_rfl) (fun _ _ _ h => h) hs5r ?_ ?_; rotate_left; (focus (intro wq hSw; have hrd := hSw; have hrd2 : ∀ b o, b < w2.heap.size → wq.cell? ⟨b, o, none⟩ = w2.cell? ⟨b, o, none⟩ := (fun b o h => Below.cell hSw (p := ⟨b, o, none⟩) h); go_simp; try with_reducible rfl; done)); try simp only [Act.put, List.setIfInBounds_toArray, List.set_cons_zero, List.set_cons_succ])
    refine e_callA 1 (by rfl) (by kernel_rfl) (by rfl) (fun KQ hKQ => ?_)
    go_simp
    have hb1 := (Below.refl w2.heap.size w2).drew.alloc (Nat.le_refl _) (.cells #[] 173)
    have hr0 : Rows memK (w2.drew.alloc (.cells #[] 173)) w2.heap.size w2.heap.size 173 (.slice (some ⟨w2.heap.size, 0, none⟩) 0 0) [] := rows_lit5 w2.drew
    have hS3 := hS1.below hb1 fun b q => q.2
    have hd : (w2.alloc (.cells #[] 173)).drew = w2.drew.alloc (.cells #[] 173) := rfl
    try rw [hd]
    have hzz := hb1.size
    generalize w2.drew.alloc (.cells #[] 173) = w3 at *
    clear hd
    have hs6r := hb1
    refine hKQ.out _ _ hs6r ?_
    clear hKQ KQ
    try simp only [Act.put, List.setIfInBounds_toArray, List.set_cons_zero, List.set_cons_succ]
    refine e_callA 8 (by rfl) (by kernel_rfl) (by rfl) (fun KQ hKQ => ?_)
    refine wp_rows memRow_ok (.tmp 12) (.tmp 18) (by rfl) hr0 (by rfl) (by rfl) hS3 (fun _ _ => trivial) (by unfold maxLen; simp; omega) (by simp; omega) hzz ?_
    intro v4 w4 hv4 hg4
    rw [List.nil_append] at hv4
    have hb4 := hb1.trans (hr0.below_app hg4 hzz)
    have hs7r := hb4
    refine hKQ.out _ _ hs7r ?_
    clear hKQ KQ
    try simp only [Act.put, List.setIfInBounds_toArray, List.set_cons_zero, List.set_cons_succ]
    have hS4 := hS2.below hb4 fun b q => q.2
    have hz4 := hb4.size
    have hl1 : (L.take k).length = k := by rw [List.length_take]; omega
    refine e_callA 16 (by rfl) (by kernel_rfl) (by rfl) (fun KQ hKQ => ?_)
    refine wp_rows memRow_ok (.tmp 19) (.tmp 26) (by rfl) hv4 (by rfl) (by rfl) hS4 (fun _ _ => trivial) (by unfold maxLen; omega) (by omega) hz4 ?_
    intro v5 w5 hv5 hg5
    rw [eraseIdx_td] at hv5
    have hb5 := hb4.trans (hv4.below_app hg5 hz4)
    obtain ⟨A5, c5, e5, hc5, hcm5, hS5⟩ := hv5.seen (Nat.le_refl _)
    subst e5
    have hq5 := hq.below hb5 ltg
    have g5 := hq5.frozen 1
    have hz5 := hb5.size
    have ltg5 : g < w5.heap.size := Nat.lt_of_lt_of_le ltg hz5
    have c5' : w5.cell? ⟨g, 1, none⟩ = some (.slice A n c) := hq5.cellv 1 rfl
    have hs8r := hb5
    refine hKQ.out _ _ hs8r ?_
    clear hKQ KQ
    try simp only [Act.put, List.setIfInBounds_toArray, List.set_cons_zero, List.set_cons_succ]
    (refine e_takeA 17 (by rfl) ?_ (by kernel_rfl) (fun _ _ _ h => h) hs8r ?_ ?_; rotate_left; (focus (intro wq hSw; have hrd := hSw; have hrd2 : ∀ b o, b < w2.heap.size → wq.cell? ⟨b, o, none⟩ = w2.cell? ⟨b, o, none⟩ := (fun b o h => Below.cell hSw (p := ⟨b, o, none⟩) h); go_simp; try with_reducible rfl; done)); try simp only [Act.put, List.setIfInBounds_toArray, List.set_cons_zero, List.set_cons_succ])
    (refine e_takeA 18 (by rfl) ?_ (by kernel_rfl) (fun _ _ _ h => h) hs8r ?_ ?_; rotate_left; (focus (intro wq hSw; have hrd := hSw; have hrd2 : ∀ b o, b < w2.heap.size → wq.cell? ⟨b, o, none⟩ = w2.cell? ⟨b, o, none⟩ := (fun b o h => Below.cell hSw (p := ⟨b, o, none⟩) h); go_simp; try with_reducible rfl; done)); try simp only [Act.put, List.setIfInBounds_toArray, List.set_cons_zero, List.set_cons_succ])
    refine e_last (by rfl) (by kernel_rfl) (by rfl) (fun KQ hKQ => ?_)
    go_simp
    obtain ⟨hq6, hg6⟩ := blk_store hq5 1 (.slice A5 (L.eraseIdx k).length c5)
    replace hq6 : Blk (w5.setCell ⟨g, 1, none⟩ (.slice A5 (L.eraseIdx k).length c5)) g 171 #[.int .i64 pc, .slice A5 (L.eraseIdx k).length c5] := hq6
    have hS6 := hS5.grown hg6 fun b q => ⟨q.2, fun e => by injection e with e; omega⟩
    generalize w5.setCell ⟨g, 1, none⟩ (.slice A5 (L.eraseIdx k).length c5) = w6 at *
    refine hKQ.out _ _ ?_
    clear hKQ KQ
    try simp only [Act.put]
    refine e_done (by kernel_rfl) ?_ _
    try refine NoPanic.normal ?_
    go_wp2_with fail
    go_ret
    rw [e.out]
    refine ⟨rfl, ⟨A5, (L.eraseIdx k).length, c5, hc5, hcm5, hq6, hS6.more fun b q => ⟨hX b (Nat.le_trans hb.size q.1), Nat.lt_of_lt_of_le q.2 hg6.size⟩⟩, ?_⟩
    exact grown_trans (grown_of_below hb (Nat.le_refl _) _) (grown_trans (grown_of_below hb5 (Nat.le_refl _) _) hg6)
end Go.Proofs.Ytejgekoinbdhjaa
