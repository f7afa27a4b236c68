/- timer: up. -/
import Derived.Test.YtejgekoinbdhjaaTiC
namespace Go.Proofs.Ytejgekoinbdhjaa
set_option linter.unusedVariables false
open Go Go.RowKit Go.Maps

theorem slo_set {w : World} {r cap n : Nat} {et : TypeId} {H : List Slo} (h : Rows sloK w 0 0 et (.slice (some ⟨r, 0, none⟩) n cap) H) {k : Nat} (hk : k < n) (e : Slo) :
    Rows sloK (((w.setCell ⟨r, k * 3, none⟩ (.int .i64 e.id)).setCell ⟨r, k * 3 + 1, none⟩ (.int .i64 e.ex)).setCell ⟨r, k * 3 + 2, none⟩ (.int .i64 e.od)) 0 0 et (.slice (some ⟨r, 0, none⟩) n cap) (H.set k e) ∧
    w.grownBy (((w.setCell ⟨r, k * 3, none⟩ (.int .i64 e.id)).setCell ⟨r, k * 3 + 1, none⟩ (.int .i64 e.ex)).setCell ⟨r, k * 3 + 2, none⟩ (.int .i64 e.od)) (some r) := by
  have hl : H.length = n := by
    obtain ⟨A, c, e1, h1, _⟩ := h.1.any
    injection e1 with _ e1
    exact e1.symm
  have hfl := flat_len sloK H
  have h0 := h.1
  rw [hl] at h0
  obtain ⟨h1, h2⟩ := own_setCells (sloK.cel e) (k * 3) w (H.flatMap sloK.cel) h0 (by rw [hfl, sloK.len]; show k * 3 + 3 ≤ H.length * 3; omega)
  have h3 := flat_set (R := sloK) (l := H) k e (by omega)
  refine ⟨⟨?_, fun _ _ => trivial⟩, h2⟩
  rw [List.length_set, hl]
  have e3 : H.flatMap sloK.cel = H.flatMap sloK.cel := rfl
  show Own1 (w.setCells r (k * 3) (sloK.cel e)) 0 et 3 _ n _
  rw [← h3]
  exact h1
/-- two slots change places. -/
def swapL (H : List Slo) (i j : Nat) : List Slo :=
  match H[i]?, H[j]? with
  | some x, some y => (H.set i y).set j x
  | _, _ => H
theorem swapL_get {H : List Slo} {i j : Nat} {x y : Slo} (hi : H[i]? = some x) (hj : H[j]? = some y) : swapL H i j = (H.set i y).set j x := by unfold swapL; rw [hi, hj]
theorem swapL_len (H : List Slo) (i j : Nat) : (swapL H i j).length = H.length := by unfold swapL; split <;> simp
/-- a slot goes up. -/
def upL : Nat → List Slo → Nat → List Slo
  | 0, H, _ => H
  | f + 1, H, i =>
    match H[i]?, H[(i - 1) / 2]? with
    | some x, some y => if 0 < i ∧ lessT x y = true then upL f (swapL H i ((i - 1) / 2)) ((i - 1) / 2) else H
    | _, _ => H
theorem par_eq (k : Nat) (h : 0 < k) : ((k : Int) - 1).tdiv 2 = (((k - 1) / 2 : Nat) : Int) := by
  rw [show ((k : Int) - 1) = ((k - 1 : Nat) : Int) by omega]
  rfl
theorem par_wrap (k : Nat) (hk : k ≤ 1000000) : IntKind.i64.wrap ((k : Int) - 1) = (k : Int) - 1 := IntWalk.i64_in _ (by omega)
theorem up_stop {f : Nat} {H : List Slo} {k : Nat} {x y : Slo} (hx : H[k]? = some x) (hy : H[(k - 1) / 2]? = some y) (hno : ¬ (0 < k ∧ lessT x y = true)) : upL f H k = H := by
  cases f with
  | zero => rfl
  | succ f => unfold upL; simp only [hx, hy, if_neg hno]
theorem up_step {f : Nat} {H : List Slo} {k : Nat} {x y : Slo} (hx : H[k]? = some x) (hy : H[(k - 1) / 2]? = some y) (h0 : 0 < k) (hl : lessT x y = true) (hf : k ≤ f) : ∃ f', f = f' + 1 ∧ upL f H k = upL f' ((H.set k y).set ((k - 1) / 2) x) ((k - 1) / 2) := by
  cases f with
  | zero => omega
  | succ f =>
    refine ⟨f, rfl, ?_⟩
    rw [upL]
    simp only [hx, hy, if_pos (And.intro h0 hl), swapL_get hx hy]
theorem TabV.put {w w' : World} {g b r n cap : Nat} {mo no co : Int} {A H H' : List Slo} (h : TabV w g b mo no co (.slice (some ⟨r, 0, none⟩) n cap) A H) (hR : Rows sloK w' 0 0 198 (.slice (some ⟨r, 0, none⟩) n cap) H') (hg : w.grownBy w' (some r)) :
    TabV w' g b mo no co (.slice (some ⟨r, 0, none⟩) n cap) A H' :=
  ⟨h.blk.grown hg (fun e => h.ng e.symm), h.ent.grown hg (fun e => h.nb e.symm), hR, h.ng, h.nb⟩
theorem slo_free {w : World} {r cap n : Nat} {et : TypeId} {H : List Slo} (h : Rows sloK w 0 0 et (.slice (some ⟨r, 0, none⟩) n cap) H) (o : Nat) : w.frozen? ⟨r, o, none⟩ = false := by
  have hl : H.length = n := by
    obtain ⟨A, c, e1, h1, _⟩ := h.1.any
    injection e1 with _ e1
    exact e1.symm
  have h0 := h.1
  rw [hl] at h0
  exact h0.free o
theorem slo_at {w : World} {r cap n : Nat} {et : TypeId} {H : List Slo} (h : Rows sloK w 0 0 et (.slice (some ⟨r, 0, none⟩) n cap) H) {k : Nat} {s : Slo} (hk : H[k]? = some s) (hkn : k < n) :
    w.cell? ⟨r, k * 3, none⟩ = some (.int .i64 s.id) ∧ w.cell? ⟨r, k * 3 + 1, none⟩ = some (.int .i64 s.ex) ∧ w.cell? ⟨r, k * 3 + 2, none⟩ = some (.int .i64 s.od) := by
  have hl : H.length = n := by
    obtain ⟨A, c, e1, h1, _⟩ := h.1.any
    injection e1 with _ e1
    exact e1.symm
  have h0 := h.1
  rw [hl] at h0
  have hz : sloK.size = 3 := rfl
  refine ⟨?_, ?_, ?_⟩
  · rw [h0.cell _ (by rw [hz]; omega)]; exact flat_get sloK H k 0 s hk (by decide)
  · rw [h0.cell _ (by rw [hz]; omega)]; exact flat_get sloK H k 1 s hk (by decide)
  · rw [h0.cell _ (by rw [hz]; omega)]; exact flat_get sloK H k 2 s hk (by decide)
set_option maxRecDepth 100000 in
set_option maxHeartbeats 4000000 in
theorem up_any (w : World) (g b : Nat) (mo no co : Int) (v : Value) (A H : List Slo) (h : TabV w g b mo no co v A H) (i : Nat) (hi : i < H.length) (hn : H.length ≤ 1000000) :
    Calls Try.prog 135 #[.pointer (some ⟨g, 0, none⟩), .int .i64 (i : Int)] w fun e w' => e = .returned (.tuple #[]) ∧ TabV w' g b mo no co v A (upL i H i) ∧ w.grownBy w' v.ownBlock := by
  obtain ⟨r, cap, rfl, -, ltr, hc1, hc2⟩ := h.row.1.form (by omega)
  have hob : (Value.slice (some ⟨r, 0, none⟩) H.length cap).ownBlock = some r := rfl
  rw [hob]
  have hng : r ≠ g := fun e => h.ng (by rw [hob, e])
  have hnb : r ≠ b := fun e => h.nb (by rw [hob, e])
  clear hob
  obtain ⟨n, hH⟩ : ∃ n, n = H.length := ⟨_, rfl⟩
  rw [← hH] at h hi hn hc1 ⊢
  have kw := par_wrap i (by omega)
  replace hH := Lib.hid hH
  go_enter Try.func135, Try.ntmps135
  go_wp2_with fail
  go_loopw [1, 4] (fun iv pv wr => ∃ (k f : Nat) (H' : List Slo), iv = .int .i64 (k : Int) ∧ pv = .int .i64 (((k : Int) - 1).tdiv 2) ∧ upL f H' k = upL i H i ∧ k ≤ f ∧ k < n ∧ TabV wr g b mo no co (.slice (some ⟨r, 0, none⟩) n cap) A H' ∧ H'.length = n ∧ w.grownBy wr (some r)) (fun iv _ _ => (intOf iv).toNat)
  case atStart => exact ⟨i, i, H, rfl, rfl, rfl, Nat.le_refl _, hi, h, hH.out.symm, grown_refl _ _⟩
  case round =>
  obtain ⟨k, f, H', rfl, rfl, hup, hkf, hkn, hT, hlen, hg⟩ := hrel
  have hlk := hlen
  replace hup := Lib.hid hup
  replace hlen := Lib.hid hlen
  have hx := List.getElem?_eq_getElem (show k < H'.length by omega)
  have hy := List.getElem?_eq_getElem (show (k - 1) / 2 < H'.length by omega)
  generalize H'[k]'(by omega) = x at hx
  generalize H'[(k - 1) / 2]'(by omega) = y at hy
  replace hlk := Lib.hid hlk
  by_cases h0 : 0 < k
  · have h0i : (0 : Int) < (k : Int) := by omega
    obtain ⟨j, hj⟩ : ∃ j, j = (k - 1) / 2 := ⟨_, rfl⟩
    have hjp := par_eq k h0
    rw [← hj] at hy hjp
    rw [hjp]
    clear hjp
    have hjn : j < n := by omega
    have hjk : j < k := by omega
    have kwj := par_wrap j (by omega)
    have hji : (j : Int) < n := by omega
    have hki : (k : Int) < n := by omega
    obtain ⟨lb, hlb⟩ : ∃ lb, lb = lessT x y := ⟨_, rfl⟩
    replace hlb := Lib.hid hlb
    replace hj := Lib.hid hj
    go_upto_region 3 with (go_at_call 174; refine (lessT_any _ g b mo no co _ A H' hT k j x y hx hy (by rw [hlk.out]; omega)).mono ?_; rintro e w2 ⟨rfl, hb⟩; rw [← hlb.out]; cases lb)
    · go_end0
      have e := up_stop (f := f) hx (by rw [← hj.out]; exact hy) (fun q => by have := q.2; rw [← hlb.out] at this; cases this)
      rw [← hup.out, e]
      exact ⟨rfl, hT.nx hb, grown_trans hg (grown_of_below hb (Nat.le_refl _) _)⟩
    · have hT2 := hT.nx hb
      have hg2 : w.grownBy w2 (some r) := grown_trans hg (grown_of_below hb (Nat.le_refl _) _)
      have c4 : w2.cell? ⟨g, 4, none⟩ = some (.slice (some ⟨r, 0, none⟩) n cap) := hT2.blk.cellv 4 rfl
      obtain ⟨x0, x1, x2⟩ := slo_at hT2.row hx hkn
      obtain ⟨y0, y1, y2⟩ := slo_at hT2.row hy hjn
      have hlen2 : H'.length = n := hlk.out
      obtain ⟨hR3, hg3⟩ := slo_set hT2.row hkn y
      obtain ⟨hR4, hg4⟩ := slo_set hR3 hjn x
      have hT4 := hT2.put hR4 (grown_trans hg3 hg4)
      have hg5 := grown_trans hg2 (grown_trans hg3 hg4)
      have hfr := slo_free hT2.row
      have ltr2 : r < w2.heap.size := Nat.lt_of_lt_of_le ltr hg2.size
      have ltg2 := hT2.ltg
      replace hT4 := Lib.hid hT4
      replace hg5 := Lib.hid hg5
      replace hlen2 := Lib.hid hlen2
      clear hR3 hg3 hR4 hg4 hT2 hg2 hlen
      obtain ⟨f', hf', hst⟩ := up_step hx (by rw [← hj.out]; exact hy) h0 hlb.out.symm hkf
      rw [← hj.out] at hst
      replace hst := Lib.hid (hst.symm.trans hup.out)
      have hjf : j ≤ f' := by omega
      clear hup hkf hf'
      go_region
      go_wp2_with fail
      refine ⟨⟨j, f', _, rfl, by first | rfl | go_num, hst.out, hjf, hjn, hT4.out.nx (Below.refl _ _).drew, by simp [hlen2.out], grown_drew hg5.out⟩, by simp [intOf]; omega⟩
  · have d0 : decide ((0 : Int) < (k : Int)) = false := by simp; omega
    have d1 : decide (0 < k) = false := by simp; omega
    go_wp2_with fail
    go_end0
    have e := up_stop (f := f) hx hy (fun q => h0 q.1)
    rw [← hup.out, e]
    exact ⟨rfl, hT, hg⟩
end Go.Proofs.Ytejgekoinbdhjaa
