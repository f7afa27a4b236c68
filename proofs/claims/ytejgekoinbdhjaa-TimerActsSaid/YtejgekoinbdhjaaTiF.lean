/- timer: pop, fresh. -/
import Derived.Test.YtejgekoinbdhjaaTiE
namespace Go.Proofs.Ytejgekoinbdhjaa
set_option linter.unusedVariables false
open Go Go.RowKit Go.Maps

theorem row_len {w : World} {r cap n : Nat} {et : TypeId} {H : List Slo} (h : Rows sloK w 0 0 et (.slice (some ⟨r, 0, none⟩) n cap) H) : H.length = n := by
  obtain ⟨A, c, e1, h1, _⟩ := h.1.any
  injection e1 with _ e1
  exact e1.symm
theorem slo_take {w : World} {r cap n : Nat} {et : TypeId} {H : List Slo} (h : Rows sloK w 0 0 et (.slice (some ⟨r, 0, none⟩) n cap) H) {m : Nat} (hm : m ≤ n) : Rows sloK w 0 0 et (.slice (some ⟨r, 0, none⟩) m cap) (H.take m) := by
  have hl := row_len h
  obtain ⟨h1, h2 | ⟨g, cap', cur, e, hb, hh, hc1, hc2, hs, ht⟩⟩ := h.1
  · cases h2.1
  · injection e with e1 e2 e3
    injection e1 with e1
    injection e1 with e1
    subst e1 e3
    refine ⟨⟨?_, .inr ⟨r, cap, cur, ?_, Nat.zero_le _, hh, by rw [List.length_take]; omega, hc2, hs, ?_⟩⟩, fun _ _ => trivial⟩
    · rw [flat_len]
    · rw [List.length_take, Nat.min_eq_left (by omega)]
    · rw [List.length_take, Nat.min_eq_left (by omega), ← flat_take (R := sloK) (l := H) m, ← ht, List.take_take, Nat.min_eq_left]
      exact Nat.mul_le_mul_right _ (by omega)
theorem TabV.cut {w : World} {g b r n cap m : Nat} {mo no co : Int} {A H : List Slo} (h : TabV w g b mo no co (.slice (some ⟨r, 0, none⟩) n cap) A H) (hm : m ≤ n) :
    TabV (w.setCell ⟨g, 4, none⟩ (.slice (some ⟨r, 0, none⟩) m cap)) g b mo no co (.slice (some ⟨r, 0, none⟩) m cap) A (H.take m) ∧ w.grownBy (w.setCell ⟨g, 4, none⟩ (.slice (some ⟨r, 0, none⟩) m cap)) (some g) := by
  obtain ⟨h1, h2⟩ := blk_store h.blk 4 (.slice (some ⟨r, 0, none⟩) m cap)
  have hR := slo_take h.row hm
  have hng : (Value.slice (some ⟨r, 0, none⟩) m cap).ownBlock ≠ some g := h.ng
  have hob : (Value.slice (some ⟨r, 0, none⟩) m cap).ownBlock = some r := rfl
  refine ⟨⟨h1, h.ent.grown h2 (fun e => h.ne (by injection e with e; exact e.symm)), ?_, h.ng, h.nb⟩, h2⟩
  exact ⟨hR.1.kept h2 (.inr (by rw [hob]; intro e; exact hng (by rw [hob, ← e]))), fun _ _ => trivial⟩
def popL (H : List Slo) : List Slo :=
  match H[H.length - 1]? with
  | some z => downL (H.length - 1) ((H.set 0 z).take (H.length - 1)) 0
  | none => H
set_option maxRecDepth 100000 in
set_option maxHeartbeats 4000000 in
theorem pop_any (w : World) (g b : Nat) (mo no co : Int) (A H : List Slo) (r cap n : Nat) (h : TabV w g b mo no co (.slice (some ⟨r, 0, none⟩) n cap) A H) (h0 : 0 < n) (hn : n ≤ 1000000) :
    Calls Try.prog 138 #[.pointer (some ⟨g, 0, none⟩)] w fun e w' => e = .returned (.tuple #[]) ∧ TabV w' g b mo no co (.slice (some ⟨r, 0, none⟩) (n - 1) cap) A (popL H) ∧ ∃ w1 w2, w.grownBy w1 (some r) ∧ w1.grownBy w2 (some g) ∧ w2.grownBy w' (some r) := by
  have hl := row_len h.row
  have hz := List.getElem?_eq_getElem (show n - 1 < H.length by omega)
  have ha := List.getElem?_eq_getElem (show 0 < H.length by omega)
  generalize H[n - 1]'(by omega) = z at hz
  generalize H[0]'(by omega) = a at ha
  obtain ⟨z0, z1, z2⟩ := slo_at h.row hz (by omega)
  obtain ⟨a0, a1, a2⟩ := slo_at h.row ha h0
  obtain ⟨hR, hg1⟩ := slo_set h.row h0 z
  have hT1 := (h.put hR hg1).nx (Below.refl _ _).drew
  replace hg1 := grown_drew hg1
  have hfr := slo_free h.row
  have c4 : w.cell? ⟨g, 4, none⟩ = some (.slice (some ⟨r, 0, none⟩) n cap) := h.blk.cellv 4 rfl
  have ltg := h.ltg
  have ltr : r < w.heap.size := (h.row.1.lt r rfl).2
  obtain ⟨d, hd⟩ : ∃ d, d = n - 1 := ⟨_, rfl⟩
  have hp : popL H = downL d ((H.set 0 z).take d) 0 := by unfold popL; rw [hl, hz, ← hd]
  rw [hp, ← hd]
  rw [← hd] at z0 z1 z2
  have hdn : d < n := by omega
  have hdi : (d : Int) < n := by omega
  have h0i : (0 : Int) < n := by omega
  have e1 : (n : Int) - 1 = (d : Int) := by omega
  have kw : IntKind.i64.wrap (d : Int) = (d : Int) := IntWalk.i64_in _ (by omega)
  have hdl : ((H.set 0 z).take d).length = d := by rw [List.length_take, List.length_set]; omega
  have hcap : n ≤ cap := by
    obtain ⟨A', c', e, q, _⟩ := h.row.1.any
    injection e with _ _ e
    omega
  have hdc : (d : Int) ≤ cap := by omega
  simp only [Nat.zero_mul, Nat.zero_add] at *
  replace hl := Lib.hid hl
  replace hdl := Lib.hid hdl
  replace hT1 := Lib.hid hT1
  replace hg1 := Lib.hid hg1
  clear hR hp hz ha hd
  go_enter Try.func138, Try.ntmps138
  go_upto_region 1 with (fail)
  go_region
  go_upto_region 2 with (fail)
  have hT2 := hT1.out
  have hg2 := hg1.out
  clear hT1 hg1 a0 a1 a2 z0 z1 z2 c4 ltg hfr h
  generalize World.drew _ = w1 at *
  obtain ⟨hT3, hg3⟩ := hT2.cut (Nat.le_of_lt hdn)
  have c4 : w1.cell? ⟨g, 4, none⟩ = some (.slice (some ⟨r, 0, none⟩) n cap) := hT2.blk.cellv 4 rfl
  have f4 := hT2.blk.frozen 4
  have ltg := hT2.ltg
  replace hT3 := Lib.hid hT3
  replace hg3 := Lib.hid hg3
  go_upto_region 3 with (fail)
  have hT4 := hT3.out
  have hg4 := hg3.out
  clear hT3 hg3 c4 f4 ltg hT2
  generalize World.setCell _ _ _ = w2 at *
  go_wp2_with (go_at_call 178; refine (down_any w2 g b mo no co A _ r cap d hT4 0 hdl.out (by omega) (by omega)).mono ?_; rintro e w3 ⟨rfl, hT5, hg5⟩)
  go_end0
  exact ⟨rfl, hT5, w1, w2, hg2, hg4, hg5⟩
end Go.Proofs.Ytejgekoinbdhjaa
