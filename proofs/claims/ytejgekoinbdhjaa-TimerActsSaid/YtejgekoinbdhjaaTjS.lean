/- timer: sweep. -/
import Derived.Test.YtejgekoinbdhjaaTjR
namespace Go.Proofs.Ytejgekoinbdhjaa
set_option linter.unusedVariables false
open Go Go.RowKit Go.Maps

set_option maxRecDepth 100000 in
set_option maxHeartbeats 8000000 in
theorem sweep_any (w : World) (g b r cap n : Nat) (mo no co : Int) (A H : List Slo) (h : TabV w g b mo no co (.slice (some ⟨r, 0, none⟩) n cap) A H) (hok : ∀ s ∈ H, SloOk s) (hn : n ≤ 1000000) :
    Calls Try.prog 136 #[.pointer (some ⟨g, 0, none⟩)] w fun e w' => e = .returned (.tuple #[]) ∧ ∃ m, TabV w' g b mo no co (.slice (some ⟨r, 0, none⟩) m cap) A (sweepL ((inA A H).length / 2) (inA A H)) ∧ Chg w w' (fun k => k = g ∨ k = r) := by
  have hB := (Below.refl w.heap.size w).alloc (Nat.le_refl _) (.cells #[.pointer (some ⟨g, 0, none⟩)] 90)
  have hp := Blk.new w 90 #[.pointer (some ⟨g, 0, none⟩)]
  have hT := h.nx hB
  have hrl := h.row.1.lt r rfl
  go_enter Try.func136, Try.ntmps136
  go_upto_region 1 with (fail)
  generalize w.alloc (.cells #[.pointer (some ⟨g, 0, none⟩)] 90) = w1 at *
  have c4 : w1.cell? ⟨g, 4, none⟩ = some (.slice (some ⟨r, 0, none⟩) n cap) := hT.blk.cellv 4 rfl
  have c0 : w1.cell? ⟨w.heap.size, 0, none⟩ = some (.pointer (some ⟨g, 0, none⟩)) := hp.cellv 0 rfl
  have hgr : g ≠ r := fun e => hT.ng (by rw [e]; rfl)
  have hpr : w.heap.size ≠ r := by omega
  have ltg := hT.ltg
  have ltp := hp.lt
  -- region 1: 0 1 2 3 4 5 6C 7 8 9M
  try refine wp_region_noPanic ?_
  have hs1r : (fun w' => Chg w1 w' (fun k => k = r)) w1.drew := Chg.of_below (Below.refl _ _).drew
  refine wp_region_E 9 (S := fun w' => Chg w1 w' (fun k => k = r)) (by kernel_rfl) hs1r (fun _ => ?_)
  (refine e_takeA 0 (by rfl) ?_ (by kernel_rfl) (fun _ _ _ h => h) hs1r ?_ ?_; rotate_left; (focus (intro wq hSw; have hrd := hSw; have hrd2 : ∀ b' o, b' < w1.heap.size → b' ≠ r → wq.cell? ⟨b', o, none⟩ = w1.cell? ⟨b', o, none⟩ := (fun b' o h hx => Chg.cell hSw (p := ⟨b', o, none⟩) h hx); go_simp; try with_reducible rfl; done)); try simp only [Act.put, List.setIfInBounds_toArray, List.set_cons_zero, List.set_cons_succ])
  (refine e_takeA 1 (by rfl) ?_ (by kernel_rfl) (fun _ _ _ h => h) hs1r ?_ ?_; rotate_left; (focus (intro wq hSw; have hrd := hSw; have hrd2 : ∀ b' o, b' < w1.heap.size → b' ≠ r → wq.cell? ⟨b', o, none⟩ = w1.cell? ⟨b', o, none⟩ := (fun b' o h hx => Chg.cell hSw (p := ⟨b', o, none⟩) h hx); go_simp; try with_reducible rfl; done)); try simp only [Act.put, List.setIfInBounds_toArray, List.set_cons_zero, List.set_cons_succ])
  (refine e_takeA 2 (by rfl) ?_ (by kernel_rfl) (fun _ _ _ h => h) hs1r ?_ ?_; rotate_left; (focus (intro wq hSw; have hrd := hSw; have hrd2 : ∀ b' o, b' < w1.heap.size → b' ≠ r → wq.cell? ⟨b', o, none⟩ = w1.cell? ⟨b', o, none⟩ := (fun b' o h hx => Chg.cell hSw (p := ⟨b', o, none⟩) h hx); go_simp; try with_reducible rfl; done)); try simp only [Act.put, List.setIfInBounds_toArray, List.set_cons_zero, List.set_cons_succ])
  (refine e_takeA 3 (by rfl) ?_ (by kernel_rfl) (fun _ _ _ h => h) hs1r ?_ ?_; rotate_left; (focus (intro wq hSw; have hrd := hSw; have hrd2 : ∀ b' o, b' < w1.heap.size → b' ≠ r → wq.cell? ⟨b', o, none⟩ = w1.cell? ⟨b', o, none⟩ := (fun b' o h hx => Chg.cell hSw (p := ⟨b', o, none⟩) h hx); go_simp; try with_reducible rfl; done)); try simp only [Act.put, List.setIfInBounds_toArray, List.set_cons_zero, List.set_cons_succ])
  (refine e_takeA 4 (by rfl) ?_ (by kernel_rfl) (fun _ _ _ h => h) hs1r ?_ ?_; rotate_left; (focus (intro wq hSw; have hrd := hSw; have hrd2 : ∀ b' o, b' < w1.heap.size → b' ≠ r → wq.cell? ⟨b', o, none⟩ = w1.cell? ⟨b', o, none⟩ := (fun b' o h hx => Chg.cell hSw (p := ⟨b', o, none⟩) h hx); go_simp; try with_reducible rfl; done)); try simp only [Act.put, List.setIfInBounds_toArray, List.set_cons_zero, List.set_cons_succ])
  (refine e_takeA 5 (by rfl) ?_ (by kernel_rfl) (fun _ _ _ h => h) hs1r ?_ ?_; rotate_left; (focus (intro wq hSw; have hrd := hSw; have hrd2 : ∀ b' o, b' < w1.heap.size → b' ≠ r → wq.cell? ⟨b', o, none⟩ = w1.cell? ⟨b', o, none⟩ := (fun b' o h hx => Chg.cell hSw (p := ⟨b', o, none⟩) h hx); go_simp; try with_reducible rfl; done)); try simp only [Act.put, List.setIfInBounds_toArray, List.set_cons_zero, List.set_cons_succ])
  refine e_callA 6 (by rfl) (by kernel_rfl) (by rfl) (fun KQ hKQ => ?_)
  go_simp
  refine (deleteF_any w1.drew g b w.heap.size r cap n mo no co A H (hT.nx (Below.refl _ _).drew) (hp.below (Below.refl _ _).drew hp.lt) hpr hok hn).mono ?_
  rintro e w3 ⟨m, rfl, hmn, hR3, hC3⟩
  have hC13 : Chg w1 w3 (fun k => k = r) := (Chg.of_below (X := fun k => k = r) (Below.refl w1.heap.size w1).drew).trans hC3 (fun _ _ q => q)
  have hq3 := hC13.blk hT.blk hgr
  have hE3 := hC13.ent hT.ent (fun e => hT.nb (by rw [e]; rfl))
  have hp3 := hC13.blk hp hpr
  have hs2r := hC13
  refine hKQ.out _ _ hs2r ?_
  clear hKQ KQ
  try simp only [Act.put, List.setIfInBounds_toArray, List.set_cons_zero, List.set_cons_succ]
  (refine e_takeA 7 (by rfl) ?_ (by kernel_rfl) (fun _ _ _ h => h) hs2r ?_ ?_; rotate_left; (focus (intro wq hSw; have hrd := hSw; have hrd2 : ∀ b' o, b' < w1.heap.size → b' ≠ r → wq.cell? ⟨b', o, none⟩ = w1.cell? ⟨b', o, none⟩ := (fun b' o h hx => Chg.cell hSw (p := ⟨b', o, none⟩) h hx); go_simp; try with_reducible rfl; done)); try simp only [Act.put, List.setIfInBounds_toArray, List.set_cons_zero, List.set_cons_succ])
  (refine e_takeA 8 (by rfl) ?_ (by kernel_rfl) (fun _ _ _ h => h) hs2r ?_ ?_; rotate_left; (focus (intro wq hSw; have hrd := hSw; have hrd2 : ∀ b' o, b' < w1.heap.size → b' ≠ r → wq.cell? ⟨b', o, none⟩ = w1.cell? ⟨b', o, none⟩ := (fun b' o h hx => Chg.cell hSw (p := ⟨b', o, none⟩) h hx); go_simp; try with_reducible rfl; done)); try simp only [Act.put, List.setIfInBounds_toArray, List.set_cons_zero, List.set_cons_succ])
  have g3 := hq3.frozen 4
  have p3 : w3.cell? ⟨g, 4, none⟩ = some (.slice (some ⟨r, 0, none⟩) n cap) := hq3.cellv 4 rfl
  have l3 := hq3.lt
  obtain ⟨hq4, hg4⟩ := blk_store hq3 4 (.slice (some ⟨r, 0, none⟩) m cap)
  replace hq4 : Blk (w3.setCell ⟨g, 4, none⟩ (.slice (some ⟨r, 0, none⟩) m cap)) g 101 #[.int .i64 mo, .int .i64 no, .int .i64 co, .map (some b), .slice (some ⟨r, 0, none⟩) m cap] := hq4
  refine e_last (by rfl) (by kernel_rfl) (by rfl) (fun KQ hKQ => ?_)
  go_simp
  generalize w3.setCell ⟨g, 4, none⟩ (.slice (some ⟨r, 0, none⟩) m cap) = w4 at *
  refine hKQ.out _ _ ?_
  clear hKQ KQ
  try simp only [Act.put]
  refine e_done (by kernel_rfl) ?_ _
  try refine NoPanic.normal ?_
  have hm := row_len hR3
  obtain ⟨H0, hH0⟩ : ∃ H0, H0 = inA A H := ⟨_, rfl⟩
  rw [← hH0] at hR3 hm
  replace hH0 := Lib.hid hH0
  have hC34 : Chg w3 w4 (fun k => k = g) := Chg.of_grown hg4 rfl
  have hT4 : TabV w4 g b mo no co (.slice (some ⟨r, 0, none⟩) m cap) A H0 := ⟨hq4, hC34.ent hE3 (fun e => hT.ne e.symm), ⟨hC34.own hR3.1 (fun k q e => hgr (((show r = k by injection q).trans e).symm)), fun _ _ => trivial⟩, fun e => hgr (by injection e with e; exact e.symm), fun e => hT.nb (by rw [← e]; rfl)⟩
  have hp4 := hC34.blk hp3 (show ¬ w.heap.size = g by have := h.ltg; omega)
  have c44 : w4.cell? ⟨g, 4, none⟩ = some (.slice (some ⟨r, 0, none⟩) m cap) := hT4.blk.cellv 4 rfl
  have c40 : w4.cell? ⟨w.heap.size, 0, none⟩ = some (.pointer (some ⟨g, 0, none⟩)) := hp4.cellv 0 rfl
  have l4 := hT4.ltg
  have l4p := hp4.lt
  have td : ((m : Int)).tdiv 2 = ((m / 2 : Nat) : Int) := by rw [Int.tdiv_eq_ediv_of_nonneg (by omega)]; omega
  have kw1 : IntKind.i64.wrap ((m / 2 : Nat) : Int) = ((m / 2 : Nat) : Int) := IntWalk.i64_in _ (by omega)
  have kw2 : IntKind.i64.wrap (((m / 2 : Nat) : Int) - 1) = ((m / 2 : Nat) : Int) - 1 := IntWalk.i64_in _ (by omega)
  replace hm := Lib.hid hm
  clear hg4 hq4 hR3
  go_wp2_with fail
  go_loopw [2] (fun iv wr => ∃ (k : Nat) (H' : List Slo), iv = .int .i64 ((k : Int) - 1) ∧ k ≤ m ∧ sweepL k H' = sweepL (m / 2) H0 ∧ H'.length = m ∧ TabV wr g b mo no co (.slice (some ⟨r, 0, none⟩) m cap) A H' ∧ Chg w4 wr (fun q => q = r) ∧ Blk wr w.heap.size 90 #[.pointer (some ⟨g, 0, none⟩)]) (fun i _ => (intOf i + 1).toNat)
  case atStart => exact ⟨m / 2, H0, rfl, Nat.div_le_self _ _, rfl, hm.out, hT4, Chg.refl _ _, hp4⟩
  case round =>
  obtain ⟨k, H', rfl, hkm, hsw, hlen', hTk, hCk, hpk⟩ := hrel
  have k0 : wr.cell? ⟨w.heap.size, 0, none⟩ = some (.pointer (some ⟨g, 0, none⟩)) := hpk.cellv 0 rfl
  have lk := hpk.lt
  replace hsw := Lib.hid hsw
  cases k with
  | zero =>
    have d0 : decide ((0 : Int) ≤ ((0 : Nat) : Int) - 1) = false := by decide
    go_wp2_with fail
    go_end0
    have hCC := (((Chg.of_below (X := fun k => k = g ∨ k = r) hB).trans hC13 (fun _ _ q => .inr q)).trans hC34 (fun _ _ q => .inl q)).trans hCk (fun _ _ q => .inr q)
    refine ⟨rfl, m, ?_, hCC⟩
    rw [← hH0.out, hm.out, ← hsw.out]
    exact hTk
  | succ k =>
    have e1 : ((k + 1 : Nat) : Int) - 1 = (k : Int) := by omega
    rw [e1]
    have d1 : (0 : Int) ≤ (k : Int) := by omega
    replace hlen' := Lib.hid hlen'
    have kw3 : IntKind.i64.wrap ((k : Int) - 1) = (k : Int) - 1 := IntWalk.i64_in _ (by omega)
    go_wp2_with (go_at_call 178; refine (down_any wr g b mo no co A H' r cap m hTk k hlen'.out (by omega) (by omega)).mono ?_; rintro e w6 ⟨rfl, hT6, hg6⟩)
    have hC6 := Chg.of_grown (X := fun q => q = r) hg6 rfl
    refine ⟨⟨k, downL m H' k, rfl, by omega, ?_, by rw [downL_len]; exact hlen'.out, hT6, hCk.trans hC6 (fun _ _ q => q), hC6.blk hpk hpr⟩, by simp [intOf] <;> omega⟩
    rw [← hsw.out, sweepL, hlen'.out]
end Go.Proofs.Ytejgekoinbdhjaa
