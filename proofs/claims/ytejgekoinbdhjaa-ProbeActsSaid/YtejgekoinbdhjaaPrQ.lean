/- probe: Copy. -/
import Derived.Test.YtejgekoinbdhjaaPrM
namespace Go.Proofs.Ytejgekoinbdhjaa
set_option linter.unusedVariables false
open Go Go.RowKit Go.Maps

theorem cloneN (w : World) (b : Nat) (f : Int → Option Int) (h : FMap nV w b f) : Calls Try.prog 155 #[.map (some b)] w fun e w' => e = .returned (.map (some w.heap.size)) ∧ FMap nV w' w.heap.size f ∧ Below w.heap.size w w' := by
  obtain ⟨l, h1, h2⟩ := h
  exact (cloneS_any w b _ h1).mono fun e w' q => ⟨q.1, ⟨l, q.2.1, h2⟩, q.2.2⟩
theorem cloneW (w : World) (b : Nat) (f : Int → Option (Int × Int)) (h : FMap aV w b f) : Calls Try.prog 156 #[.map (some b)] w fun e w' => e = .returned (.map (some w.heap.size)) ∧ FMap aV w' w.heap.size f ∧ Below w.heap.size w w' := by
  obtain ⟨l, h1, h2⟩ := h
  exact (cloneA_any w b _ h1).mono fun e w' q => ⟨q.1, ⟨l, q.2.1, h2⟩, q.2.2⟩
set_option maxRecDepth 100000 in
set_option maxHeartbeats 4000000 in
theorem copyX24 {w : World} {X : Nat → Prop} {g : Nat} {ev pa no sq : Int} {L : List Pr} (h : TabP w X g ev pa no sq L) :
    Calls Try.prog 78 #[.pointer (some ⟨g, 0, none⟩)] w fun e w' => ∃ g2 X2, e = .returned (.pointer (some ⟨g2, 0, none⟩)) ∧ TabP w' X2 g2 ev pa no sq L ∧ (∀ k, X2 k → w.heap.size ≤ k) ∧ Below w.heap.size w w' := by
  obtain ⟨bn, bw, hP, hG, hX, hlt⟩ := h
  have c0 : w.cell? ⟨g, 0, none⟩ = some (.int .i64 ev) := hP.blk.cellv 0 rfl
  have c1 : w.cell? ⟨g, 1, none⟩ = some (.int .i64 pa) := hP.blk.cellv 1 rfl
  have c2 : w.cell? ⟨g, 2, none⟩ = some (.int .i64 no) := hP.blk.cellv 2 rfl
  have c4 : w.cell? ⟨g, 4, none⟩ = some (.map (some bn)) := hP.blk.cellv 4 rfl
  have c5 : w.cell? ⟨g, 5, none⟩ = some (.map (some bw)) := hP.blk.cellv 5 rfl
  have ltg := hP.blk.lt
  go_enter Try.func78, Try.ntmps78
  go_upto_region 3 with (go_at_call 150; refine (madeP_in hP).mono ?_; rintro e w' ⟨rfl, rfl⟩)
  -- region 3: 0 1 2 3 4 5 6 7 8 9 10 11 12 13 14 15 16C 17 18 19 20 21C 22 23M 24
  try refine wp_region_noPanic ?_
  have hs1r : (fun w' => Below w.heap.size w w') w.drew := (Below.refl _ _).drew
  refine wp_region_held_drew (S := fun w' => Below w.heap.size w w') (by kernel_rfl) hs1r (fun _ => ?_)
  (refine held_takeA 0 (by rfl) ?_ (by kernel_rfl) (fun _ _ _ h => h) hs1r ?_ ?_; rotate_left; (focus (intro wq hSw; have hrd := hSw; have hrd2 : ∀ b o, b < w.heap.size → wq.cell? ⟨b, o, none⟩ = w.cell? ⟨b, o, none⟩ := (fun b o h => Below.cell hSw (p := ⟨b, o, none⟩) h); go_simp; try with_reducible rfl; done)); try simp only [Act.put, List.setIfInBounds_toArray, List.set_cons_zero, List.set_cons_succ])
  (refine held_takeA 1 (by rfl) ?_ (by kernel_rfl) (fun _ _ _ h => h) hs1r ?_ ?_; rotate_left; (focus (intro wq hSw; have hrd := hSw; have hrd2 : ∀ b o, b < w.heap.size → wq.cell? ⟨b, o, none⟩ = w.cell? ⟨b, o, none⟩ := (fun b o h => Below.cell hSw (p := ⟨b, o, none⟩) h); go_simp; try with_reducible rfl; done)); try simp only [Act.put, List.setIfInBounds_toArray, List.set_cons_zero, List.set_cons_succ])
  (refine held_takeA 2 (by rfl) ?_ (by kernel_rfl) (fun _ _ _ h => h) hs1r ?_ ?_; rotate_left; (focus (intro wq hSw; have hrd := hSw; have hrd2 : ∀ b o, b < w.heap.size → wq.cell? ⟨b, o, none⟩ = w.cell? ⟨b, o, none⟩ := (fun b o h => Below.cell hSw (p := ⟨b, o, none⟩) h); go_simp; try with_reducible rfl; done)); try simp only [Act.put, List.setIfInBounds_toArray, List.set_cons_zero, List.set_cons_succ])
  (refine held_takeA 3 (by rfl) ?_ (by kernel_rfl) (fun _ _ _ h => h) hs1r ?_ ?_; rotate_left; (focus (intro wq hSw; have hrd := hSw; have hrd2 : ∀ b o, b < w.heap.size → wq.cell? ⟨b, o, none⟩ = w.cell? ⟨b, o, none⟩ := (fun b o h => Below.cell hSw (p := ⟨b, o, none⟩) h); go_simp; try with_reducible rfl; done)); try simp only [Act.put, List.setIfInBounds_toArray, List.set_cons_zero, List.set_cons_succ])
  (refine held_takeA 4 (by rfl) ?_ (by kernel_rfl) (fun _ _ _ h => h) hs1r ?_ ?_; rotate_left; (focus (intro wq hSw; have hrd := hSw; have hrd2 : ∀ b o, b < w.heap.size → wq.cell? ⟨b, o, none⟩ = w.cell? ⟨b, o, none⟩ := (fun b o h => Below.cell hSw (p := ⟨b, o, none⟩) h); go_simp; try with_reducible rfl; done)); try simp only [Act.put, List.setIfInBounds_toArray, List.set_cons_zero, List.set_cons_succ])
  (refine held_takeA 5 (by rfl) ?_ (by kernel_rfl) (fun _ _ _ h => h) hs1r ?_ ?_; rotate_left; (focus (intro wq hSw; have hrd := hSw; have hrd2 : ∀ b o, b < w.heap.size → wq.cell? ⟨b, o, none⟩ = w.cell? ⟨b, o, none⟩ := (fun b o h => Below.cell hSw (p := ⟨b, o, none⟩) h); go_simp; try with_reducible rfl; done)); try simp only [Act.put, List.setIfInBounds_toArray, List.set_cons_zero, List.set_cons_succ])
  (refine held_takeA 6 (by rfl) ?_ (by kernel_rfl) (fun _ _ _ h => h) hs1r ?_ ?_; rotate_left; (focus (intro wq hSw; have hrd := hSw; have hrd2 : ∀ b o, b < w.heap.size → wq.cell? ⟨b, o, none⟩ = w.cell? ⟨b, o, none⟩ := (fun b o h => Below.cell hSw (p := ⟨b, o, none⟩) h); go_simp; try with_reducible rfl; done)); try simp only [Act.put, List.setIfInBounds_toArray, List.set_cons_zero, List.set_cons_succ])
  (refine held_takeA 7 (by rfl) ?_ (by kernel_rfl) (fun _ _ _ h => h) hs1r ?_ ?_; rotate_left; (focus (intro wq hSw; have hrd := hSw; have hrd2 : ∀ b o, b < w.heap.size → wq.cell? ⟨b, o, none⟩ = w.cell? ⟨b, o, none⟩ := (fun b o h => Below.cell hSw (p := ⟨b, o, none⟩) h); go_simp; try with_reducible rfl; done)); try simp only [Act.put, List.setIfInBounds_toArray, List.set_cons_zero, List.set_cons_succ])
  (refine held_takeA 8 (by rfl) ?_ (by kernel_rfl) (fun _ _ _ h => h) hs1r ?_ ?_; rotate_left; (focus (intro wq hSw; have hrd := hSw; have hrd2 : ∀ b o, b < w.heap.size → wq.cell? ⟨b, o, none⟩ = w.cell? ⟨b, o, none⟩ := (fun b o h => Below.cell hSw (p := ⟨b, o, none⟩) h); go_simp; try with_reducible rfl; done)); try simp only [Act.put, List.setIfInBounds_toArray, List.set_cons_zero, List.set_cons_succ])
  (refine held_takeA 9 (by rfl) ?_ (by kernel_rfl) (fun _ _ _ h => h) hs1r ?_ ?_; rotate_left; (focus (intro wq hSw; have hrd := hSw; have hrd2 : ∀ b o, b < w.heap.size → wq.cell? ⟨b, o, none⟩ = w.cell? ⟨b, o, none⟩ := (fun b o h => Below.cell hSw (p := ⟨b, o, none⟩) h); go_simp; try with_reducible rfl; done)); try simp only [Act.put, List.setIfInBounds_toArray, List.set_cons_zero, List.set_cons_succ])
  (refine held_takeA 10 (by rfl) ?_ (by kernel_rfl) (fun _ _ _ h => h) hs1r ?_ ?_; rotate_left; (focus (intro wq hSw; have hrd := hSw; have hrd2 : ∀ b o, b < w.heap.size → wq.cell? ⟨b, o, none⟩ = w.cell? ⟨b, o, none⟩ := (fun b o h => Below.cell hSw (p := ⟨b, o, none⟩) h); go_simp; try with_reducible rfl; done)); try simp only [Act.put, List.setIfInBounds_toArray, List.set_cons_zero, List.set_cons_succ])
  (refine held_takeA 11 (by rfl) ?_ (by kernel_rfl) (fun _ _ _ h => h) hs1r ?_ ?_; rotate_left; (focus (intro wq hSw; have hrd := hSw; have hrd2 : ∀ b o, b < w.heap.size → wq.cell? ⟨b, o, none⟩ = w.cell? ⟨b, o, none⟩ := (fun b o h => Below.cell hSw (p := ⟨b, o, none⟩) h); go_simp; try with_reducible rfl; done)); try simp only [Act.put, List.setIfInBounds_toArray, List.set_cons_zero, List.set_cons_succ])
  (refine held_takeA 12 (by rfl) ?_ (by kernel_rfl) (fun _ _ _ h => h) hs1r ?_ ?_; rotate_left; (focus (intro wq hSw; have hrd := hSw; have hrd2 : ∀ b o, b < w.heap.size → wq.cell? ⟨b, o, none⟩ = w.cell? ⟨b, o, none⟩ := (fun b o h => Below.cell hSw (p := ⟨b, o, none⟩) h); go_simp; try with_reducible rfl; done)); try simp only [Act.put, List.setIfInBounds_toArray, List.set_cons_zero, List.set_cons_succ])
  (refine held_takeA 13 (by rfl) ?_ (by kernel_rfl) (fun _ _ _ h => h) hs1r ?_ ?_; rotate_left; (focus (intro wq hSw; have hrd := hSw; have hrd2 : ∀ b o, b < w.heap.size → wq.cell? ⟨b, o, none⟩ = w.cell? ⟨b, o, none⟩ := (fun b o h => Below.cell hSw (p := ⟨b, o, none⟩) h); go_simp; try with_reducible rfl; done)); try simp only [Act.put, List.setIfInBounds_toArray, List.set_cons_zero, List.set_cons_succ])
  (refine held_takeA 14 (by rfl) ?_ (by kernel_rfl) (fun _ _ _ h => h) hs1r ?_ ?_; rotate_left; (focus (intro wq hSw; have hrd := hSw; have hrd2 : ∀ b o, b < w.heap.size → wq.cell? ⟨b, o, none⟩ = w.cell? ⟨b, o, none⟩ := (fun b o h => Below.cell hSw (p := ⟨b, o, none⟩) h); go_simp; try with_reducible rfl; done)); try simp only [Act.put, List.setIfInBounds_toArray, List.set_cons_zero, List.set_cons_succ])
  (refine held_takeA 15 (by rfl) ?_ (by kernel_rfl) (fun _ _ _ h => h) hs1r ?_ ?_; rotate_left; (focus (intro wq hSw; have hrd := hSw; have hrd2 : ∀ b o, b < w.heap.size → wq.cell? ⟨b, o, none⟩ = w.cell? ⟨b, o, none⟩ := (fun b o h => Below.cell hSw (p := ⟨b, o, none⟩) h); go_simp; try with_reducible rfl; done)); try simp only [Act.put, List.setIfInBounds_toArray, List.set_cons_zero, List.set_cons_succ])
  (refine held_takeA 17 (by rfl) ?_ (by kernel_rfl) (fun _ _ _ h => h) hs1r ?_ ?_; rotate_left; (focus (intro wq hSw; have hrd := hSw; have hrd2 : ∀ b o, b < w.heap.size → wq.cell? ⟨b, o, none⟩ = w.cell? ⟨b, o, none⟩ := (fun b o h => Below.cell hSw (p := ⟨b, o, none⟩) h); go_simp; try with_reducible rfl; done)); try simp only [Act.put, List.setIfInBounds_toArray, List.set_cons_zero, List.set_cons_succ])
  (refine held_takeA 18 (by rfl) ?_ (by kernel_rfl) (fun _ _ _ h => h) hs1r ?_ ?_; rotate_left; (focus (intro wq hSw; have hrd := hSw; have hrd2 : ∀ b o, b < w.heap.size → wq.cell? ⟨b, o, none⟩ = w.cell? ⟨b, o, none⟩ := (fun b o h => Below.cell hSw (p := ⟨b, o, none⟩) h); go_simp; try with_reducible rfl; done)); try simp only [Act.put, List.setIfInBounds_toArray, List.set_cons_zero, List.set_cons_succ])
  (refine held_takeA 19 (by rfl) ?_ (by kernel_rfl) (fun _ _ _ h => h) hs1r ?_ ?_; rotate_left; (focus (intro wq hSw; have hrd := hSw; have hrd2 : ∀ b o, b < w.heap.size → wq.cell? ⟨b, o, none⟩ = w.cell? ⟨b, o, none⟩ := (fun b o h => Below.cell hSw (p := ⟨b, o, none⟩) h); go_simp; try with_reducible rfl; done)); try simp only [Act.put, List.setIfInBounds_toArray, List.set_cons_zero, List.set_cons_succ])
  (refine held_takeA 20 (by rfl) ?_ (by kernel_rfl) (fun _ _ _ h => h) hs1r ?_ ?_; rotate_left; (focus (intro wq hSw; have hrd := hSw; have hrd2 : ∀ b o, b < w.heap.size → wq.cell? ⟨b, o, none⟩ = w.cell? ⟨b, o, none⟩ := (fun b o h => Below.cell hSw (p := ⟨b, o, none⟩) h); go_simp; try with_reducible rfl; done)); try simp only [Act.put, List.setIfInBounds_toArray, List.set_cons_zero, List.set_cons_succ])
  refine held_callA 16 (by rfl) (by kernel_rfl) (by rfl) (fun KQ hKQ => ?_)
  go_simp
  refine (cloneN w.drew bn _ (show FMap nV w.drew bn (fnL L) from hP.en)).mono ?_
  rintro e w2 ⟨rfl, hn2, hb2⟩
  have hB2 : Below w.heap.size w w2 := (show Below w.heap.size w w.drew from (Below.refl _ _).drew).trans hb2
  replace hn2 : FMap nV w2 w.heap.size (fnL L) := hn2
  have lt2 := hn2.lt
  have hs2r := hB2
  refine hKQ.out _ _ hs2r ?_
  clear hKQ KQ
  try simp only [Act.put, List.setIfInBounds_toArray, List.set_cons_zero, List.set_cons_succ]
  refine held_callA 21 (by rfl) (by kernel_rfl) (by rfl) (fun KQ hKQ => ?_)
  go_simp
  refine (cloneW w2 bw _ (hP.ew.nx hB2)).mono ?_
  rintro e w3 ⟨rfl, hw3, hb3⟩
  have hB3 := hB2.trans (hb3.mono hB2.size)
  have hn3 := hn2.nx hb3
  have lt3 := hw3.lt
  have hs3r := hB3
  refine hKQ.out _ _ hs3r ?_
  clear hKQ KQ
  try simp only [Act.put, List.setIfInBounds_toArray, List.set_cons_zero, List.set_cons_succ]
  (refine held_takeA 22 (by rfl) ?_ (by kernel_rfl) (fun _ _ _ h => h) hs3r ?_ ?_; rotate_left; (focus (intro wq hSw; have hrd := hSw; have hrd2 : ∀ b o, b < w.heap.size → wq.cell? ⟨b, o, none⟩ = w.cell? ⟨b, o, none⟩ := (fun b o h => Below.cell hSw (p := ⟨b, o, none⟩) h); go_simp; try with_reducible rfl; done)); try simp only [Act.put, List.setIfInBounds_toArray, List.set_cons_zero, List.set_cons_succ])
  refine held_callA 23 (by rfl) (by kernel_rfl) (by rfl) (fun KQ hKQ => ?_)
  go_simp
  have hb4 := (Below.refl w3.heap.size w3).alloc (Nat.le_refl _) (.cells #[.int .i64 ev, .int .i64 pa, .int .i64 no, .int .i64 0, .map (some w.heap.size), .map (some w2.heap.size)] 125)
  have hq4 := Blk.new w3 125 #[.int .i64 ev, .int .i64 pa, .int .i64 no, .int .i64 0, .map (some w.heap.size), .map (some w2.heap.size)]
  have hB4 := hB3.trans (hb4.mono hB3.size)
  have hn4 := hn3.nx hb4
  have hw4 := hw3.nx hb4
  generalize w3.alloc (.cells #[.int .i64 ev, .int .i64 pa, .int .i64 no, .int .i64 0, .map (some w.heap.size), .map (some w2.heap.size)] 125) = w4 at *
  have hs4r := hB4
  refine hKQ.out _ _ hs4r ?_
  clear hKQ KQ
  try simp only [Act.put, List.setIfInBounds_toArray, List.set_cons_zero, List.set_cons_succ]
  (refine held_takeA 24 (by rfl) ?_ (by kernel_rfl) (fun _ _ _ h => h) hs4r ?_ ?_; rotate_left; (focus (intro wq hSw; have hrd := hSw; have hrd2 : ∀ b o, b < w.heap.size → wq.cell? ⟨b, o, none⟩ = w.cell? ⟨b, o, none⟩ := (fun b o h => Below.cell hSw (p := ⟨b, o, none⟩) h); go_simp; try with_reducible rfl; done)); try simp only [Act.put, List.setIfInBounds_toArray, List.set_cons_zero, List.set_cons_succ])
  refine wpAnyH_done (by kernel_rfl) ?_ _
  try refine NoPanic.normal ?_
  have hP4 := hP.nx hB4
  have ltg4 := hP4.blk.lt
  have lt4 := hq4.lt
  go_upto_region 4 with (fail)
  have hgx : g ≠ w3.heap.size := by have := hB3.size; omega
  -- region 4: 0 1 2 3 4 5 6C 7C
  try refine wp_region_noPanic ?_
  have hs5r : w4.grownBy w4.drew (some w3.heap.size) := grown_drew (grown_refl _ _)
  refine wp_region_held_drew (S := fun w' => w4.grownBy w' (some w3.heap.size)) (by kernel_rfl) hs5r (fun _ => ?_)
  (refine held_takeA 0 (by rfl) ?_ (by kernel_rfl) (fun _ _ _ h => h) hs5r ?_ ?_; rotate_left; (focus (intro wq hSw; have hrd : ∀ b' o, b' < w4.heap.size → b' ≠ w3.heap.size → wq.cell? ⟨b', o, none⟩ = w4.cell? ⟨b', o, none⟩ := (fun b' o h hne => grown_cell hSw h hne); go_simp; try with_reducible rfl; done)); try simp only [Act.put, List.setIfInBounds_toArray, List.set_cons_zero, List.set_cons_succ])
  (refine held_takeA 1 (by rfl) ?_ (by kernel_rfl) (fun _ _ _ h => h) hs5r ?_ ?_; rotate_left; (focus (intro wq hSw; have hrd : ∀ b' o, b' < w4.heap.size → b' ≠ w3.heap.size → wq.cell? ⟨b', o, none⟩ = w4.cell? ⟨b', o, none⟩ := (fun b' o h hne => grown_cell hSw h hne); go_simp; try with_reducible rfl; done)); try simp only [Act.put, List.setIfInBounds_toArray, List.set_cons_zero, List.set_cons_succ])
  (refine held_takeA 2 (by rfl) ?_ (by kernel_rfl) (fun _ _ _ h => h) hs5r ?_ ?_; rotate_left; (focus (intro wq hSw; have hrd : ∀ b' o, b' < w4.heap.size → b' ≠ w3.heap.size → wq.cell? ⟨b', o, none⟩ = w4.cell? ⟨b', o, none⟩ := (fun b' o h hne => grown_cell hSw h hne); go_simp; try with_reducible rfl; done)); try simp only [Act.put, List.setIfInBounds_toArray, List.set_cons_zero, List.set_cons_succ])
  (refine held_takeA 3 (by rfl) ?_ (by kernel_rfl) (fun _ _ _ h => h) hs5r ?_ ?_; rotate_left; (focus (intro wq hSw; have hrd : ∀ b' o, b' < w4.heap.size → b' ≠ w3.heap.size → wq.cell? ⟨b', o, none⟩ = w4.cell? ⟨b', o, none⟩ := (fun b' o h hne => grown_cell hSw h hne); go_simp; try with_reducible rfl; done)); try simp only [Act.put, List.setIfInBounds_toArray, List.set_cons_zero, List.set_cons_succ])
  (refine held_takeA 4 (by rfl) ?_ (by kernel_rfl) (fun _ _ _ h => h) hs5r ?_ ?_; rotate_left; (focus (intro wq hSw; have hrd : ∀ b' o, b' < w4.heap.size → b' ≠ w3.heap.size → wq.cell? ⟨b', o, none⟩ = w4.cell? ⟨b', o, none⟩ := (fun b' o h hne => grown_cell hSw h hne); go_simp; try with_reducible rfl; done)); try simp only [Act.put, List.setIfInBounds_toArray, List.set_cons_zero, List.set_cons_succ])
  (refine held_takeA 5 (by rfl) ?_ (by kernel_rfl) (fun _ _ _ h => h) hs5r ?_ ?_; rotate_left; (focus (intro wq hSw; have hrd : ∀ b' o, b' < w4.heap.size → b' ≠ w3.heap.size → wq.cell? ⟨b', o, none⟩ = w4.cell? ⟨b', o, none⟩ := (fun b' o h hne => grown_cell hSw h hne); go_simp; try with_reducible rfl; done)); try simp only [Act.put, List.setIfInBounds_toArray, List.set_cons_zero, List.set_cons_succ])
  refine held_callA 6 (by rfl) (by kernel_rfl) (by rfl) (fun KQ hKQ => ?_)
  go_simp
  refine (atLoad_any w4.drew g 3 _ _ sq (show Blk w4.drew g 125 _ from hP4.blk) rfl).mono ?_
  rintro e w5 ⟨rfl, rfl⟩
  refine hKQ.out _ _ (grown_trans hs5r (grown_refl w4.drew (some w3.heap.size))) (held_mono (S' := fun w' => w4.drew.grownBy w' (some w3.heap.size)) (fun w' h => grown_trans (grown_trans hs5r (grown_refl w4.drew (some w3.heap.size))) h) _ _ _ _ ?_)
  clear hKQ KQ
  have hs6r : w4.drew.grownBy w4.drew (some w3.heap.size) := grown_refl _ _
  try simp only [Act.put, List.setIfInBounds_toArray, List.set_cons_zero, List.set_cons_succ]
  refine held_callA 7 (by rfl) (by kernel_rfl) (by rfl) (fun KQ hKQ => ?_)
  go_simp
  refine (atStore_any w4.drew w3.heap.size 3 _ _ sq 0 (show Blk w4.drew w3.heap.size 125 #[.int .i64 ev, .int .i64 pa, .int .i64 no, .int .i64 0, .map (some w.heap.size), .map (some w2.heap.size)] from hq4) rfl).mono ?_
  rintro e w6 ⟨rfl, hq6, hg6⟩
  refine hKQ.out _ _ (grown_trans hs6r hg6) (held_mono (S' := fun w' => w6.grownBy w' (some w3.heap.size)) (fun w' h => grown_trans (grown_trans hs6r hg6) h) _ _ _ _ ?_)
  clear hKQ KQ
  have hs7r : w6.grownBy w6 (some w3.heap.size) := grown_refl _ _
  try simp only [Act.put, List.setIfInBounds_toArray, List.set_cons_zero, List.set_cons_succ]
  refine wpAnyH_done (by kernel_rfl) ?_ _
  try refine NoPanic.normal ?_
  go_wp2_with fail
  go_ret
  have hg46 : w4.grownBy w6 (some w3.heap.size) := grown_trans (grown_drew (grown_refl w4 (some w3.heap.size))) hg6
  have hC : Chg w4 w6 (fun k => k = w3.heap.size) := Chg.of_grown hg46 rfl
  have z2 := hB2.size
  have z3 := hB3.size
  refine ⟨w3.heap.size, rfl, fun k => k = w3.heap.size ∨ k = w.heap.size ∨ k = w2.heap.size, ⟨w.heap.size, w2.heap.size, ⟨hq6, hn4.chg hC (by omega), hw4.chg hC (by omega), by omega⟩, hG, fun k q => q, fun k q => by have := hC.size; omega⟩, fun k q => by omega, hB4.grown hg46 hB4.size fun k e => by have e2 : w3.heap.size = k := Option.some.inj e; omega⟩
end Go.Proofs.Ytejgekoinbdhjaa
