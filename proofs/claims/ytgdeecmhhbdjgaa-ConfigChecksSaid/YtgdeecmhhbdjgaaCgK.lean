/- config: the document's part 4. -/
import Derived.Test.YtgdeecmhhbdjgaaCgJ
namespace Go.Proofs.Ytgdeecmhhbdjgaa
set_option linter.unusedVariables false
open Go Go.RowKit Go.Maps

theorem rAddS (w : World) (X : Nat → Prop) (g : Nat) (pc : Int) (L : List Mem) (id ad wt : Int) (h : RefIn w X g pc L) (hn : L.length ≤ 16) (hX : ∀ b, w.heap.size ≤ b → X b) :
    Calls Try.prog 57 #[.pointer (some ⟨g, 0, none⟩), .agg #[.int .i64 id, .int .u32 ad, .int .i64 wt]] w fun e w' => e = .returned (.int .i64 (addR L id ad wt).1) ∧ RefIn w' X g pc (addR L id ad wt).2 ∧ w.grownBy w' (some g) := by
  by_cases hok : addOk id ad wt = false
  · exact refAddBad w X g pc L id ad wt h hok
  · exact refAddOk w X g pc L id ad wt h (by simpa using hok) hn hX
theorem rel_nil : Rel [] [] := ⟨List.Perm.refl _, List.Pairwise.nil, by simp, fun m h => by cases h⟩
set_option maxRecDepth 100000 in
set_option maxHeartbeats 4000000 in
theorem refPools_any (w : World) (c : CfgV) (h : CfgIn w c) (hs : CfgSm c) : Calls Try.prog 30 #[.agg (cfgC c)] w fun e w' => e = .returned (.bool (poolsB c)) ∧ Below w.heap.size w w' := by
  have hB := (Below.refl w.heap.size w).alloc (Nat.le_refl _) (.cells (cfgC c) 37)
  have hq := Blk.new w 37 (cfgC c)
  have hVl := Lib.hid h.vips.1
  obtain ⟨A, hA⟩ : ∃ A, A = c.vA := ⟨_, rfl⟩
  have hSv := h.vips
  rw [← hA] at hSv
  go_enter Try.func30, Try.ntmps30
  go_upto_region 1 with (fail)
  generalize w.alloc (.cells (cfgC c) 37) = w1 at *
  have q4 : w1.cell? ⟨w.heap.size, 4, none⟩ = some (.slice A c.vn c.vc) := by rw [hA]; exact hq.cellv 4 rfl
  have ql := hq.lt
  replace hA := Lib.hid hA
  go_upto_region 2 with (fail)
  clear q4 ql
  go_loopw [11] (fun i wr => ∃ k : Nat, k ≤ c.vn ∧ i = .int .i64 (k : Int) ∧ (∀ j a, j < k → c.V[j]? = some a → poolB a = true) ∧ Below w.heap.size w wr) (fun i _ => c.vn - (intOf i).toNat)
  case atStart => exact ⟨0, Nat.zero_le _, rfl, fun j a hj => absurd hj (by omega), hB⟩
  case round =>
  clear hq hB
  obtain ⟨k, hk, rfl, hall, hB⟩ := hrel
  replace hall := Lib.hid hall
  by_cases hlt : k < c.vn
  · have hki : (k : Int) < c.vn := by omega
    have hk0 : (0 : Int) ≤ k := by omega
    have hk40 : (k : Int) ≤ 40 := by have := hs.v; omega
    obtain ⟨b, off, v, e1, hb, hv, hok, r0, r1, r2⟩ := vip_cells (seen_nx hSv hB) hlt
    subst e1
    have hno : poolB v = false → poolsB c = false := fun hf => all_no hv hf
    have hyes : poolB v = true → ∀ j a, j < k + 1 → c.V[j]? = some a → poolB a = true := fun ht j a hj ha => by
      by_cases hjk : j < k
      · exact hall.out j a hjk ha
      · obtain rfl : j = k := by omega
        rw [hv] at ha; injection ha with ha; subst ha
        exact ht
    have hsm := hs.b v (List.mem_of_getElem? hv)
    obtain ⟨vad, vpct, vA, vn, vc, vL⟩ := v
    dsimp only at r0 r1 r2 hsm
    obtain ⟨hUv, -, hvc, -, hS5⟩ := hok
    dsimp only at hUv hvc hS5
    have hl5 := Lib.hid hS5.1
    have hbx := (Below.refl wr.heap.size wr).alloc (Nat.le_refl _) (.cells #[.int .u32 vad, .int .i64 vpct, .slice vA vn vc] 65)
    have h5 := Blk.new wr 65 #[.int .u32 vad, .int .i64 vpct, .slice vA vn vc]
    have hS6 := seen_nx hS5 hbx
    replace hB := hB.trans (hbx.mono hB.size)
    go_upto_region 4 with (fail)
    generalize wr.alloc (.cells #[.int .u32 vad, .int .i64 vpct, .slice vA vn vc] 65) = w3 at *
    generalize wr.heap.size = g5 at *
    have s1 : w3.cell? ⟨g5, 1, none⟩ = some (.int .i64 vpct) := h5.cellv 1 rfl
    have sl := h5.lt
    have hg5 := h5.lt
    clear r0 r1 r2 hbx hb hS5
    by_cases hp : vpct < 1 ∨ 100 < vpct
    · have ev := Lib.hid (hno (by unfold poolB rngB; rcases hp with hp | hp <;> simp <;> intros <;> omega))
      clear hno hyes
      go_wp2_with fail
      refine (refNewNo25 w3 vpct hp).mono ?_
      rintro e w4 ⟨rfl, rfl⟩
      go_wp2_with fail
      go_ret
      exact ⟨ret_bool ev.out.symm, hB⟩
    have hp1 : rngB 1 100 vpct = true := by unfold rngB; simp; omega
    replace hp1 := Lib.hid hp1
    go_wp2_with fail
    refine (refNew25 w3 (fun b => w3.heap.size ≤ b) vpct (by omega) (by omega)).mono ?_
    rintro e w4 ⟨rfl, hR, hb⟩
    replace h5 := h5.below hb h5.lt
    have hS4 := hS6.below hb fun b h => h
    clear hS6
    have hz3 := hB.size
    have hgz : w3.heap.size < w4.heap.size := hR.lt
    replace hB := hB.trans (hb.mono hB.size)
    clear s1 sl hp
    have s2 : w4.cell? ⟨g5, 2, none⟩ = some (.slice vA vn vc) := h5.cellv 2 rfl
    have sl := h5.lt
    by_cases hn1 : vn < 1
    · have ev := Lib.hid (hno (by unfold poolB; rw [hl5.out]; have : decide (1 ≤ vn) = false := by simp; omega
                                  rw [this]; simp))
      have d0 : decide ((vn : Int) < 1) = true := by simp; omega
      have hn9 := Lib.hid (show vn = 0 by omega)
      clear hno hyes hn1
      go_wp2_with fail
      go_ret
      exact ⟨ret_bool ev.out.symm, hB⟩
    have d0 : decide ((vn : Int) < 1) = false := by simp; omega
    by_cases hn16 : 16 < vn
    · have ev := Lib.hid (hno (by
        unfold poolB
        cases ha : addsM [] vL with
        | none => simp
        | some M' =>
          have := addsM_len vL [] M' ha (by simp)
          have := hl5.out
          simp at *
          omega))
      have d1 : decide ((16 : Int) < vn) = true := by simp; omega
      clear hno hyes
      go_wp2_with fail
      go_ret
      exact ⟨ret_bool ev.out.symm, hB⟩
    have d1 : decide ((16 : Int) < vn) = false := by simp; omega
    generalize hgp : w3.heap.size = gp at *
    clear hgp
    go_upto_region 8 with (fail)
    clear s2 sl d0 d1
    go_loopw [35] (fun i wr => ∃ (j : Nat) (M L : List Mem), j ≤ vn ∧ i = .int .i64 (j : Int) ∧ addsM [] (vL.take j) = some M ∧ Rel M L ∧ RefIn wr (fun b => gp ≤ b) gp vpct L ∧ Below w.heap.size w wr ∧ w4.heap.size ≤ wr.heap.size ∧ Seen bndK wr (fun b => b < gp) vA vn vL) (fun i _ => vn - (intOf i).toNat)
    case atStart => exact ⟨0, [], [], Nat.zero_le _, rfl, rfl, rel_nil, hR, hB, Nat.le_refl _, hS4⟩
    case round =>
    clear hR hB
    obtain ⟨j, M, L, hj, rfl, hM, hRel, hR, hB, hzw, hS⟩ := hrel
    by_cases hjn : j < vn
    · have hji : (j : Int) < vn := by omega
      have hj0 : (0 : Int) ≤ j := by omega
      obtain ⟨b2, off2, a, e2, hb2, ha, hok2, r0, r1, r2⟩ := bnd_cells hS hjn
      subst e2
      have hbx := (Below.refl wr.heap.size wr).alloc (Nat.le_refl _) (.cells #[.int .i64 a.id, .int .u32 a.ad, .int .i64 a.wt] 114)
      have h6 := Blk.new wr 114 #[.int .i64 a.id, .int .u32 a.ad, .int .i64 a.wt]
      have hzg : gp ≤ wr.heap.size := by omega
      have hS2 := (hS.below hbx fun b hb => Nat.lt_of_lt_of_le hb hzg)
      have hR2 := hR.nx hbx
      have hB2 := hB.trans (hbx.mono hB.size)
      have hz2 := hbx.size
      have hLl : L.length ≤ 16 := by have := hRel.2.2.1; have := hRel.1.length_eq; omega
      go_upto_region 10 with (fail)
      generalize wr.alloc (.cells #[.int .i64 a.id, .int .u32 a.ad, .int .i64 a.wt] 114) = w5 at *
      have t0 : w5.cell? ⟨wr.heap.size, 0, none⟩ = some (.int .i64 a.id) := h6.cellv 0 rfl
      have t1 : w5.cell? ⟨wr.heap.size, 1, none⟩ = some (.int .u32 a.ad) := h6.cellv 1 rfl
      have t2 : w5.cell? ⟨wr.heap.size, 2, none⟩ = some (.int .i64 a.wt) := h6.cellv 2 rfl
      have tl := h6.lt
      clear r0 r1 r2 hbx
      have hc := rAddS w5 (fun b => gp ≤ b) gp vpct L a.id a.ad a.wt hR2 hLl (fun b hb => by omega)
      obtain ⟨hr1, hr2⟩ := rel_add hRel a.id a.ad a.wt
      obtain ⟨k1, k2⟩ := addsM_take hM ha
      rw [hr1] at k1 k2
      generalize (addR L a.id a.ad a.wt).1 = rr at *
      generalize (addR L a.id a.ad a.wt).2 = L2 at *
      go_wp2_with fail
      refine hc.mono ?_
      rintro e w6 ⟨rfl, hR3, hg⟩
      have hB3 := hB2.trans (Below.of_grown (B := w.heap.size) hg hB2.size hz3)
      have hS3 := hS2.grown hg fun b hb => ⟨Nat.lt_of_lt_of_le hb (by omega), by intro e; injection e with e; omega⟩
      have hz6 := hg.size
      clear hc t0 t1 t2 tl hR2 hR
      by_cases hr0 : rr = 0
      · rw [if_pos hr0] at k1
        have d2 : (rr != 0) = false := by simpa using hr0
        replace hr0 := Lib.hid hr0
        go_wp2_with fail
        exact ⟨⟨j + 1, _, L2, by omega, by go_num, k1, hr2, hR3, hB3, by omega, hS3⟩, by simp [intOf]; omega⟩
      · have d2 : (rr != 0) = true := by simpa using hr0
        have ev := Lib.hid (hno (by unfold poolB; rw [k2 hr0]; simp))
        clear hno hyes k1 k2
        go_wp2_with fail
        go_ret
        exact ⟨ret_bool ev.out.symm, hB3⟩
    · obtain rfl : j = vn := by omega
      rw [List.take_of_length_le (by rw [hl5.out]; exact Nat.le_refl _)] at hM
      have hy := Lib.hid (hyes (by unfold poolB; rw [hp1.out, hl5.out, hM]; simp; omega))
      clear hno hyes
      go_wp2_with fail
      go_roundw
      case rel => exact ⟨k + 1, by omega, by go_num, hy.out, hB⟩
      all_goals (simp [intOf]; omega)
  · obtain rfl : k = c.vn := by omega
    have ev := Lib.hid (show poolsB c = true from all_yes fun j a ha => hall.out j a (by have := (List.getElem?_eq_some_iff.1 ha).1; have := hVl.out; omega) ha)
    go_wp2_with fail
    go_ret
    exact ⟨ret_bool ev.out.symm, hB⟩
end Go.Proofs.Ytgdeecmhhbdjgaa
