import Derived.Test.YtecmhakapomepaaGreatMConfigForms33
import Derived.Test.YtecmhakapomepaaGreatMConfigForms34
import Derived.Deep.DeepCutAuto
import Derived.Deep.CutBlock
/- config: the document's Parse. -/
namespace Go.Proofs.YtecmhakapomepaaGreat
set_option linter.unusedVariables false
open Go Go.RowKit

set_option maxRecDepth 100000 in
set_option maxHeartbeats 16000000 in
theorem refParse_core (w : World) (A : Option Addr) (n c : Nat) (l : List UInt8) (B : Nat) (h : Byt w B A n l) (hBw : B ≤ w.heap.size) (hn : n ≤ 5000) (PW : CfgW) (PE : Int) (hP : PW = parseW l ∧ PE = parseE l) : Calls Tryz.prog 7 #[.slice A n c] w fun e w' => ∃ c : CfgV, e = .returned (.tuple #[.agg (cfgC c), .int .i64 PE]) ∧ CfgIn w' c ∧ CfgSm c ∧ c.w = PW ∧ Below w.heap.size w w' := by
  replace hP := Lib.hid hP
  have hB := (Below.refl w.heap.size w).alloc (Nat.le_refl _) (.cells #[.int .i64 0, .int .u32 0, .int .u32 0, .slice none 0 0, .slice none 0 0, .slice none 0 0, .int .i64 0, .int .i64 0, .int .i64 0, .int .i64 0, .int .i64 0, .int .i64 0, .int .i64 0, .int .i64 0, .int .i64 0, .int .i64 0, .int .i64 0, .int .i64 0, .int .i64 0] 41)
  have h2 := Blk.new w 41 #[.int .i64 0, .int .u32 0, .int .u32 0, .slice none 0 0, .slice none 0 0, .slice none 0 0, .int .i64 0, .int .i64 0, .int .i64 0, .int .i64 0, .int .i64 0, .int .i64 0, .int .i64 0, .int .i64 0, .int .i64 0, .int .i64 0, .int .i64 0, .int .i64 0, .int .i64 0]
  replace h := h.alloc hBw (.cells #[.int .i64 0, .int .u32 0, .int .u32 0, .slice none 0 0, .slice none 0 0, .slice none 0 0, .int .i64 0, .int .i64 0, .int .i64 0, .int .i64 0, .int .i64 0, .int .i64 0, .int .i64 0, .int .i64 0, .int .i64 0, .int .i64 0, .int .i64 0, .int .i64 0, .int .i64 0] 41)
  have hB1 : B ≤ (w.alloc (.cells #[.int .i64 0, .int .u32 0, .int .u32 0, .slice none 0 0, .slice none 0 0, .slice none 0 0, .int .i64 0, .int .i64 0, .int .i64 0, .int .i64 0, .int .i64 0, .int .i64 0, .int .i64 0, .int .i64 0, .int .i64 0, .int .i64 0, .int .i64 0, .int .i64 0, .int .i64 0] 41)).heap.size := Nat.le_trans hBw hB.size
  go_enter Tryz.func7, Tryz.ntmps7
  go_upto_region 1 with (fail)
  generalize w.alloc (.cells #[.int .i64 0, .int .u32 0, .int .u32 0, .slice none 0 0, .slice none 0 0, .slice none 0 0, .int .i64 0, .int .i64 0, .int .i64 0, .int .i64 0, .int .i64 0, .int .i64 0, .int .i64 0, .int .i64 0, .int .i64 0, .int .i64 0, .int .i64 0, .int .i64 0, .int .i64 0] 41) = w1 at *
  go_wp2_with fail
  refine (refRead_any w1 A n c l B h hB1 (by omega)).mono ?_
  rintro e w2 ⟨gs, rfl, hgs, hs, hb⟩
  have hx2 : w.heap.size < w1.heap.size := h2.lt
  obtain ⟨lo, hlo⟩ : ∃ lo, lo = w1.heap.size := ⟨_, rfl⟩
  rw [← hlo] at hs hgs
  have D : DocR w w2 B A n l lo gs (pS0 l) := ⟨hs, h2.below hb h2.lt, h.keep fun p hp => hb.cell (by omega), hB.trans (hb.mono hB.size), hBw, by omega, hgs⟩
  clear hs h2 h hB hb hB1 hx2 hlo
  go_wp2_with fail
  refine (refU16P w2 lo gs _ D.hs).mono ?_
  rintro e w3 ⟨rfl, hs, hg⟩
  replace hs : Ref w3 lo gs (pS1 l) := hs
  replace D := D.src hs hg
  clear hs hg
  have hbx := (Below.refl w3.heap.size w3).alloc (Nat.le_refl _) (.cells #[.int .i64 0, .int .u32 0, .int .u32 0, .slice none 0 0, .slice none 0 0, .slice none 0 0, .int .i64 0, .int .i64 0, .int .i64 0, .int .i64 0, .int .i64 0, .int .i64 0, .int .i64 0, .int .i64 0, .int .i64 0, .int .i64 0, .int .i64 0, .int .i64 0, .int .i64 0] 41)
  have hq := Blk.new w3 41 #[.int .i64 0, .int .u32 0, .int .u32 0, .slice none 0 0, .slice none 0 0, .slice none 0 0, .int .i64 0, .int .i64 0, .int .i64 0, .int .i64 0, .int .i64 0, .int .i64 0, .int .i64 0, .int .i64 0, .int .i64 0, .int .i64 0, .int .i64 0, .int .i64 0, .int .i64 0]
  have hx5 := D.lt
  have hbz : ∀ w : World, (Instr.build 41 #[(0, .int .i64 (numV (pS0 l) 2))]).run Tryz.prog w = .ok (.agg #[.int .i64 (numV (pS0 l) 2), .int .u32 0, .int .u32 0, .slice none 0 0, .slice none 0 0, .slice none 0 0, .int .i64 0, .int .i64 0, .int .i64 0, .int .i64 0, .int .i64 0, .int .i64 0, .int .i64 0, .int .i64 0, .int .i64 0, .int .i64 0, .int .i64 0, .int .i64 0, .int .i64 0]) w := fun w => by kernel_rfl
  have hi9 : (Tryz.prog.info? 41).map (·.size) = some (19 : Nat) := by kernel_rfl
  go_upto_region 3 with (first
    | (refine wpList_build1 rfl 41 0 (.tmp 17) (.int .i64 (numV (pS0 l) 2)) rfl rfl hbz ?_)
    | (refine wpList_store_blk rfl hq 41 (.tmp 5) (.tmp 18) rfl rfl rfl rfl hi9 (by simp [Value.oneCell']) ?_; intro w4 hc hg4))
  replace D := (D.below hbx).up hg4 (by omega)
  clear hbx hq hg4 hbz hi9
  generalize hg5 : w3.heap.size = a5 at *
  replace hg5 := Lib.hid hg5
  go_wp2_with fail
  refine (refU32P w4 lo gs _ D.hs).mono ?_
  rintro e m11 ⟨rfl, hs, hg⟩
  replace hs : Ref m11 lo gs (pS2 l) := hs
  replace D := D.src hs hg
  clear hs
  replace hc := hc.grown hg (by have := D.ne; simp; omega)
  clear hg
  have z0 := hc.cellv 1 (v := .int .u32 0) rfl
  have f0 := hc.frozen 1
  have l0 := hc.lt
  obtain ⟨so1, so2⟩ := blk_store hc 1 (.int .u32 (numV (pS1 l) 4))
  go_upto_region 4 with (fail)
  clear f0 l0 z0
  generalize m11.setCell ⟨a5, 1, none⟩ (.int .u32 (numV (pS1 l) 4)) = m12 at *
  replace hc : Blk m12 a5 41 #[.int .i64 (numV (pS0 l) 2), .int .u32 (numV (pS1 l) 4), .int .u32 0, .slice none 0 0, .slice none 0 0, .slice none 0 0, .int .i64 0, .int .i64 0, .int .i64 0, .int .i64 0, .int .i64 0, .int .i64 0, .int .i64 0, .int .i64 0, .int .i64 0, .int .i64 0, .int .i64 0, .int .i64 0, .int .i64 0] := so1
  clear so1
  replace D := D.up so2 (by omega)
  clear so2
  go_wp2_with fail
  refine (refU32P m12 lo gs _ D.hs).mono ?_
  rintro e m13 ⟨rfl, hs, hg⟩
  replace hs : Ref m13 lo gs (pS3 l) := hs
  replace D := D.src hs hg
  clear hs
  replace hc := hc.grown hg (by have := D.ne; simp; omega)
  clear hg
  have z0 := hc.cellv 2 (v := .int .u32 0) rfl
  have f0 := hc.frozen 2
  have l0 := hc.lt
  obtain ⟨so1, so2⟩ := blk_store hc 2 (.int .u32 (numV (pS2 l) 4))
  go_upto_region 5 with (fail)
  clear f0 l0 z0
  generalize m13.setCell ⟨a5, 2, none⟩ (.int .u32 (numV (pS2 l) 4)) = m14 at *
  replace hc : Blk m14 a5 41 #[.int .i64 (numV (pS0 l) 2), .int .u32 (numV (pS1 l) 4), .int .u32 (numV (pS2 l) 4), .slice none 0 0, .slice none 0 0, .slice none 0 0, .int .i64 0, .int .i64 0, .int .i64 0, .int .i64 0, .int .i64 0, .int .i64 0, .int .i64 0, .int .i64 0, .int .i64 0, .int .i64 0, .int .i64 0, .int .i64 0, .int .i64 0] := so1
  clear so1
  replace D := D.up so2 (by omega)
  clear so2
  go_wp2_with fail
  refine (refU8P m14 lo gs _ D.hs).mono ?_
  rintro e m15 ⟨rfl, hs, hg⟩
  replace hs : Ref m15 lo gs (nx (pS3 l) 1) := hs
  replace D := D.src hs hg
  clear hs
  replace hc := hc.grown hg (by have := D.ne; simp; omega)
  clear hg
  obtain ⟨s0, hs0⟩ : ∃ s0, s0 = nx (pS3 l) 1 := ⟨_, rfl⟩
  obtain ⟨m, hm⟩ : ∃ m : Nat, numV (pS3 l) 1 = m := ⟨(numV (pS3 l) 1).toNat, by have := numV_lo (pS3 l) 1; omega⟩
  have hm255 := numV_1 (pS3 l)
  have hlist : listP peerP (pS3 l) = manyP peerP m s0 := by unfold listP; rw [hm, hs0]; rfl
  rw [← hs0] at D
  rw [hm] at hm255 ⊢
  have hm2 : m ≤ 255 := by omega
  replace hlist := Lib.hid hlist
  clear hs0 hm hm255
  obtain ⟨B0, hB0⟩ : ∃ B0, B0 = m15.heap.size := ⟨_, rfl⟩
  have hgB : gs < B0 := by rw [hB0]; exact D.lt
  have hBa5 : a5 < B0 := by rw [hB0]; exact hc.lt
  have hBw0 : B0 ≤ m15.heap.size := Nat.le_of_eq hB0
  replace hB0 := Lib.hid hB0
  go_upto_block 0 with (fail)
  go_cut [] (fun wx => ∃ v : Value, Rows peerK wx B0 B0 80 v (listP peerP (pS3 l)).1 ∧ Blk wx a5 41 #[.int .i64 (numV (pS0 l) 2), .int .u32 (numV (pS1 l) 4), .int .u32 (numV (pS2 l) 4), v, .slice none 0 0, .slice none 0 0, .int .i64 0, .int .i64 0, .int .i64 0, .int .i64 0, .int .i64 0, .int .i64 0, .int .i64 0, .int .i64 0, .int .i64 0, .int .i64 0, .int .i64 0, .int .i64 0, .int .i64 0] ∧ DocR w wx B A n l lo gs (pS4 l) ∧ B0 ≤ wx.heap.size)
  case first =>
    have hnil : Rows peerK m15 B0 B0 80 (.slice none 0 0) [] := Rows.nil _ _ _ _
    go_wp2_with fail
    go_loopw [6] (fun nv wr => ∃ (v : Value) (k : Nat) (st : St) (L : List PeerV), nv = .int .i64 (k : Int) ∧ k ≤ 255 ∧ (manyP peerP m s0).1 = L ++ (manyP peerP k st).1 ∧ (manyP peerP m s0).2 = (manyP peerP k st).2 ∧ L.length + k ≤ 255 ∧ Rows peerK wr B0 B0 80 v L ∧ Blk wr a5 41 #[.int .i64 (numV (pS0 l) 2), .int .u32 (numV (pS1 l) 4), .int .u32 (numV (pS2 l) 4), v, .slice none 0 0, .slice none 0 0, .int .i64 0, .int .i64 0, .int .i64 0, .int .i64 0, .int .i64 0, .int .i64 0, .int .i64 0, .int .i64 0, .int .i64 0, .int .i64 0, .int .i64 0, .int .i64 0, .int .i64 0] ∧ DocR w wr B A n l lo gs st ∧ B0 ≤ wr.heap.size) (fun nv _ => (intOf nv).toNat)
    case atStart => exact ⟨_, m, s0, [], rfl, hm2, rfl, rfl, by simpa using hm2, hnil, hc, D, hBw0⟩
    case round =>
    clear hc D hBw0 hnil
    obtain ⟨v, k, st, L, rfl, hk, hl1, hl2, hlen, hr, hc, D, hBw⟩ := hrel
    replace hl1 := Lib.hid hl1
    replace hl2 := Lib.hid hl2
    have cE := D.hs.e_cell
    have lE := D.lt
    cases k with
    | zero =>
      have e1 := hl1.out
      have e2 := hl2.out
      rw [manyP] at e1 e2
      rw [List.append_nil] at e1
      replace e1 := Lib.hid e1
      replace e2 := Lib.hid e2
      go_wp2_with fail
      go_meet
      refine ⟨v, by rw [hlist.out, e1.out]; exact hr, hc, ?_, hBw⟩
      rw [show (pS4 l) = st from (congrArg Prod.snd hlist.out).trans e2.out]
      exact D
    | succ k =>
      have d1 : decide ((0 : Int) < ((k + 1 : Nat) : Int)) = true := decide_eq_true (by omega)
      have d1' : (0 : Int) < ((k + 1 : Nat) : Int) := by omega
      by_cases he : st.e = 0
      · have e1 : manyP peerP (k + 1) st = ((peerP st).1 :: (manyP peerP k (peerP st).2).1, (manyP peerP k (peerP st).2).2) := by rw [manyP, if_pos he]
        have e2 := hl1.out
        have e3 := hl2.out
        rw [e1] at e2 e3
        replace e2 := Lib.hid e2
        replace e3 := Lib.hid e3
        clear e1 hl1 hl2
        rw [he] at cE
        replace he := Lib.hid he
        obtain ⟨Av, cv, rfl, -, -, -⟩ := hr.seen (Nat.le_refl _)
        go_wp2_with fail
        refine (refU16P wr lo gs _ D.hs).mono ?_
        rintro e m16 ⟨rfl, hs, hg⟩
        replace hs : Ref m16 lo gs (nx (st) 2) := hs
        replace D := D.src hs hg
        clear hs
        replace hc := hc.grown hg (by have := D.ne; simp; omega)
        replace hr := rows_grown hr hg (by omega)
        have hzg := hg.size
        replace hBw : B0 ≤ m16.heap.size := Nat.le_trans hBw hzg
        clear hzg
        clear hg
        have hbx := (Below.refl m16.heap.size m16).alloc (Nat.le_refl _) (.cells #[.int .i64 (numV st 2), .int .i64 0, .int .i64 0, .int .i64 0, .int .i64 0, .int .i64 0, .int .i64 0] 80)
        have hp := Blk.new m16 80 #[.int .i64 (numV st 2), .int .i64 0, .int .i64 0, .int .i64 0, .int .i64 0, .int .i64 0, .int .i64 0]
        obtain ⟨b7, hb7⟩ : ∃ b, b = m16.heap.size := ⟨_, rfl⟩
        have hne7 : (Value.slice Av L.length cv).ownBlock ≠ some b7 := rows_ne hr (Nat.le_of_eq hb7.symm)
        have hB7 : B0 ≤ b7 := by omega
        have hg7 : gs < b7 := by omega
        go_upto_region 9 with (fail)
        rw [← hb7] at hp ⊢
        replace hb7 := Lib.hid hb7
        generalize m16.alloc (.cells #[.int .i64 (numV st 2), .int .i64 0, .int .i64 0, .int .i64 0, .int .i64 0, .int .i64 0, .int .i64 0] 80) = m17 at *
        replace D := D.below hbx
        replace hc := hc.below hbx hc.lt
        replace hr := hr.below hbx
        replace hBw : B0 ≤ m17.heap.size := Nat.le_trans hBw hbx.size
        clear hbx
        go_wp2_with fail
        refine (refU16P m17 lo gs _ D.hs).mono ?_
        rintro e m18 ⟨rfl, hs, hg⟩
        replace hs : Ref m18 lo gs (nx (nx (st) 2) 2) := hs
        replace D := D.src hs hg
        clear hs
        replace hc := hc.grown hg (by have := D.ne; simp; omega)
        replace hr := rows_grown hr hg (by omega)
        have hzg := hg.size
        replace hBw : B0 ≤ m18.heap.size := Nat.le_trans hBw hzg
        clear hzg
        replace hp := hp.grown hg (by have := D.ne; simp; omega)
        clear hg
        have z0 := hp.cellv 1 (v := .int .i64 0) rfl
        have f0 := hp.frozen 1
        have l0 := hp.lt
        obtain ⟨so1, so2⟩ := blk_store hp 1 (.int .i64 (numV (nx (st) 2) 2))
        go_upto_region 10 with (fail)
        clear f0 l0 z0
        generalize m18.setCell ⟨b7, 1, none⟩ (.int .i64 (numV (nx (st) 2) 2)) = m19 at *
        replace hp : Blk m19 b7 80 #[.int .i64 (numV st 2), .int .i64 (numV (nx (st) 2) 2), .int .i64 0, .int .i64 0, .int .i64 0, .int .i64 0, .int .i64 0] := so1
        clear so1
        replace D := D.up so2 (by omega)
        replace hc := hc.grown so2 (by simp; omega)
        replace hr := rows_keptF peerF hr so2 (.inr hne7)
        have hzg := so2.size
        replace hBw : B0 ≤ m19.heap.size := Nat.le_trans hBw hzg
        clear hzg
        clear so2
        try clear b1 b2
        go_wp2_with fail
        refine (refU16P m19 lo gs _ D.hs).mono ?_
        rintro e m20 ⟨rfl, hs, hg⟩
        replace hs : Ref m20 lo gs (nx (nx (nx (st) 2) 2) 2) := hs
        replace D := D.src hs hg
        clear hs
        replace hc := hc.grown hg (by have := D.ne; simp; omega)
        replace hr := rows_grown hr hg (by omega)
        have hzg := hg.size
        replace hBw : B0 ≤ m20.heap.size := Nat.le_trans hBw hzg
        clear hzg
        replace hp := hp.grown hg (by have := D.ne; simp; omega)
        clear hg
        have z0 := hp.cellv 2 (v := .int .i64 0) rfl
        have f0 := hp.frozen 2
        have l0 := hp.lt
        obtain ⟨so1, so2⟩ := blk_store hp 2 (.int .i64 (numV (nx (nx (st) 2) 2) 2))
        go_upto_region 11 with (fail)
        clear f0 l0 z0
        generalize m20.setCell ⟨b7, 2, none⟩ (.int .i64 (numV (nx (nx (st) 2) 2) 2)) = m21 at *
        replace hp : Blk m21 b7 80 #[.int .i64 (numV st 2), .int .i64 (numV (nx (st) 2) 2), .int .i64 (numV (nx (nx (st) 2) 2) 2), .int .i64 0, .int .i64 0, .int .i64 0, .int .i64 0] := so1
        clear so1
        replace D := D.up so2 (by omega)
        replace hc := hc.grown so2 (by simp; omega)
        replace hr := rows_keptF peerF hr so2 (.inr hne7)
        have hzg := so2.size
        replace hBw : B0 ≤ m21.heap.size := Nat.le_trans hBw hzg
        clear hzg
        clear so2
        try clear b1 b2
        go_wp2_with fail
        refine (refU16P m21 lo gs _ D.hs).mono ?_
        rintro e m22 ⟨rfl, hs, hg⟩
        replace hs : Ref m22 lo gs (nx (nx (nx (nx (st) 2) 2) 2) 2) := hs
        replace D := D.src hs hg
        clear hs
        replace hc := hc.grown hg (by have := D.ne; simp; omega)
        replace hr := rows_grown hr hg (by omega)
        have hzg := hg.size
        replace hBw : B0 ≤ m22.heap.size := Nat.le_trans hBw hzg
        clear hzg
        replace hp := hp.grown hg (by have := D.ne; simp; omega)
        clear hg
        have z0 := hp.cellv 3 (v := .int .i64 0) rfl
        have f0 := hp.frozen 3
        have l0 := hp.lt
        obtain ⟨so1, so2⟩ := blk_store hp 3 (.int .i64 (numV (nx (nx (nx (st) 2) 2) 2) 2))
        go_upto_region 12 with (fail)
        clear f0 l0 z0
        generalize m22.setCell ⟨b7, 3, none⟩ (.int .i64 (numV (nx (nx (nx (st) 2) 2) 2) 2)) = m23 at *
        replace hp : Blk m23 b7 80 #[.int .i64 (numV st 2), .int .i64 (numV (nx (st) 2) 2), .int .i64 (numV (nx (nx (st) 2) 2) 2), .int .i64 (numV (nx (nx (nx (st) 2) 2) 2) 2), .int .i64 0, .int .i64 0, .int .i64 0] := so1
        clear so1
        replace D := D.up so2 (by omega)
        replace hc := hc.grown so2 (by simp; omega)
        replace hr := rows_keptF peerF hr so2 (.inr hne7)
        have hzg := so2.size
        replace hBw : B0 ≤ m23.heap.size := Nat.le_trans hBw hzg
        clear hzg
        clear so2
        try clear b1 b2
        have b1 := numV_lo (nx (nx (nx (nx (st) 2) 2) 2) 2) 4
        have b2 := numV_4 (nx (nx (nx (nx (st) 2) 2) 2) 2) 4 (by omega)
        go_wp2_with fail
        refine (refU32P m23 lo gs _ D.hs).mono ?_
        rintro e m24 ⟨rfl, hs, hg⟩
        replace hs : Ref m24 lo gs (nx (nx (nx (nx (nx (st) 2) 2) 2) 2) 4) := hs
        replace D := D.src hs hg
        clear hs
        replace hc := hc.grown hg (by have := D.ne; simp; omega)
        replace hr := rows_grown hr hg (by omega)
        have hzg := hg.size
        replace hBw : B0 ≤ m24.heap.size := Nat.le_trans hBw hzg
        clear hzg
        replace hp := hp.grown hg (by have := D.ne; simp; omega)
        clear hg
        have z0 := hp.cellv 4 (v := .int .i64 0) rfl
        have f0 := hp.frozen 4
        have l0 := hp.lt
        obtain ⟨so1, so2⟩ := blk_store hp 4 (.int .i64 (numV (nx (nx (nx (nx (st) 2) 2) 2) 2) 4))
        go_upto_region 13 with (fail)
        clear f0 l0 z0
        generalize m24.setCell ⟨b7, 4, none⟩ (.int .i64 (numV (nx (nx (nx (nx (st) 2) 2) 2) 2) 4)) = m25 at *
        replace hp : Blk m25 b7 80 #[.int .i64 (numV st 2), .int .i64 (numV (nx (st) 2) 2), .int .i64 (numV (nx (nx (st) 2) 2) 2), .int .i64 (numV (nx (nx (nx (st) 2) 2) 2) 2), .int .i64 (numV (nx (nx (nx (nx (st) 2) 2) 2) 2) 4), .int .i64 0, .int .i64 0] := so1
        clear so1
        replace D := D.up so2 (by omega)
        replace hc := hc.grown so2 (by simp; omega)
        replace hr := rows_keptF peerF hr so2 (.inr hne7)
        have hzg := so2.size
        replace hBw : B0 ≤ m25.heap.size := Nat.le_trans hBw hzg
        clear hzg
        clear so2
        try clear b1 b2
        go_wp2_with fail
        refine (refU8P m25 lo gs _ D.hs).mono ?_
        rintro e m26 ⟨rfl, hs, hg⟩
        replace hs : Ref m26 lo gs (nx (nx (nx (nx (nx (nx (st) 2) 2) 2) 2) 4) 1) := hs
        replace D := D.src hs hg
        clear hs
        replace hc := hc.grown hg (by have := D.ne; simp; omega)
        replace hr := rows_grown hr hg (by omega)
        have hzg := hg.size
        replace hBw : B0 ≤ m26.heap.size := Nat.le_trans hBw hzg
        clear hzg
        replace hp := hp.grown hg (by have := D.ne; simp; omega)
        clear hg
        have z0 := hp.cellv 5 (v := .int .i64 0) rfl
        have f0 := hp.frozen 5
        have l0 := hp.lt
        obtain ⟨so1, so2⟩ := blk_store hp 5 (.int .i64 (numV (nx (nx (nx (nx (nx (st) 2) 2) 2) 2) 4) 1))
        go_upto_region 14 with (fail)
        clear f0 l0 z0
        generalize m26.setCell ⟨b7, 5, none⟩ (.int .i64 (numV (nx (nx (nx (nx (nx (st) 2) 2) 2) 2) 4) 1)) = m27 at *
        replace hp : Blk m27 b7 80 #[.int .i64 (numV st 2), .int .i64 (numV (nx (st) 2) 2), .int .i64 (numV (nx (nx (st) 2) 2) 2), .int .i64 (numV (nx (nx (nx (st) 2) 2) 2) 2), .int .i64 (numV (nx (nx (nx (nx (st) 2) 2) 2) 2) 4), .int .i64 (numV (nx (nx (nx (nx (nx (st) 2) 2) 2) 2) 4) 1), .int .i64 0] := so1
        clear so1
        replace D := D.up so2 (by omega)
        replace hc := hc.grown so2 (by simp; omega)
        replace hr := rows_keptF peerF hr so2 (.inr hne7)
        have hzg := so2.size
        replace hBw : B0 ≤ m27.heap.size := Nat.le_trans hBw hzg
        clear hzg
        clear so2
        try clear b1 b2
        have b1 := numV_lo (nx (nx (nx (nx (nx (nx (st) 2) 2) 2) 2) 4) 1) 4
        have b2 := numV_4 (nx (nx (nx (nx (nx (nx (st) 2) 2) 2) 2) 4) 1) 4 (by omega)
        go_wp2_with fail
        refine (refU32P m27 lo gs _ D.hs).mono ?_
        rintro e m28 ⟨rfl, hs, hg⟩
        replace hs : Ref m28 lo gs (nx (nx (nx (nx (nx (nx (nx (st) 2) 2) 2) 2) 4) 1) 4) := hs
        replace D := D.src hs hg
        clear hs
        replace hc := hc.grown hg (by have := D.ne; simp; omega)
        replace hr := rows_grown hr hg (by omega)
        have hzg := hg.size
        replace hBw : B0 ≤ m28.heap.size := Nat.le_trans hBw hzg
        clear hzg
        replace hp := hp.grown hg (by have := D.ne; simp; omega)
        clear hg
        have z0 := hp.cellv 6 (v := .int .i64 0) rfl
        have f0 := hp.frozen 6
        have l0 := hp.lt
        obtain ⟨so1, so2⟩ := blk_store hp 6 (.int .i64 (numV (nx (nx (nx (nx (nx (nx (st) 2) 2) 2) 2) 4) 1) 4))
        go_upto_region 15 with (fail)
        clear f0 l0 z0
        generalize m28.setCell ⟨b7, 6, none⟩ (.int .i64 (numV (nx (nx (nx (nx (nx (nx (st) 2) 2) 2) 2) 4) 1) 4)) = m29 at *
        replace hp : Blk m29 b7 80 #[.int .i64 (numV st 2), .int .i64 (numV (nx (st) 2) 2), .int .i64 (numV (nx (nx (st) 2) 2) 2), .int .i64 (numV (nx (nx (nx (st) 2) 2) 2) 2), .int .i64 (numV (nx (nx (nx (nx (st) 2) 2) 2) 2) 4), .int .i64 (numV (nx (nx (nx (nx (nx (st) 2) 2) 2) 2) 4) 1), .int .i64 (numV (nx (nx (nx (nx (nx (nx (st) 2) 2) 2) 2) 4) 1) 4)] := so1
        clear so1
        replace D := D.up so2 (by omega)
        replace hc := hc.grown so2 (by simp; omega)
        replace hr := rows_keptF peerF hr so2 (.inr hne7)
        have hzg := so2.size
        replace hBw : B0 ≤ m29.heap.size := Nat.le_trans hBw hzg
        clear hzg
        clear so2
        try clear b1 b2
        obtain ⟨st2, hst2⟩ : ∃ s, s = nx (nx (nx (nx (nx (nx (nx (st) 2) 2) 2) 2) 4) 1) 4 := ⟨_, rfl⟩
        obtain ⟨p, hp2⟩ : ∃ p, p = (peerP st).1 := ⟨_, rfl⟩
        have e4 : (peerP st).2 = st2 := by rw [hst2]; rfl
        have hX : (#[.int .i64 (numV st 2), .int .i64 (numV (nx (st) 2) 2), .int .i64 (numV (nx (nx (st) 2) 2) 2), .int .i64 (numV (nx (nx (nx (st) 2) 2) 2) 2), .int .i64 (numV (nx (nx (nx (nx (st) 2) 2) 2) 2) 4), .int .i64 (numV (nx (nx (nx (nx (nx (st) 2) 2) 2) 2) 4) 1), .int .i64 (numV (nx (nx (nx (nx (nx (nx (st) 2) 2) 2) 2) 4) 1) 4)] : Array Value).toList = peerK.cel p := by rw [hp2]; rfl
        have hokp : ∀ (w : World) (S : Nat → Prop), peerK.ok w S p := fun w S => by rw [hp2]; exact peerP_ok st w S
        have e2 := e2.out
        have e3 := e3.out
        rw [← hp2, e4] at e2
        rw [e4] at e3
        rw [← hst2] at D
        replace e2 := Lib.hid e2
        replace e3 := Lib.hid e3
        replace hX := Lib.hid hX
        clear hst2 hp2 e4
        have hbx := (Below.refl m29.heap.size m29).alloc (Nat.le_refl _) (.cells #[.int .i64 (numV st 2), .int .i64 (numV (nx (st) 2) 2), .int .i64 (numV (nx (nx (st) 2) 2) 2), .int .i64 (numV (nx (nx (nx (st) 2) 2) 2) 2), .int .i64 (numV (nx (nx (nx (nx (st) 2) 2) 2) 2) 4), .int .i64 (numV (nx (nx (nx (nx (nx (st) 2) 2) 2) 2) 4) 1), .int .i64 (numV (nx (nx (nx (nx (nx (nx (st) 2) 2) 2) 2) 4) 1) 4)] 80)
        have hr3 : Rows peerK (m29.alloc (.cells #[.int .i64 (numV st 2), .int .i64 (numV (nx (st) 2) 2), .int .i64 (numV (nx (nx (st) 2) 2) 2), .int .i64 (numV (nx (nx (nx (st) 2) 2) 2) 2), .int .i64 (numV (nx (nx (nx (nx (st) 2) 2) 2) 2) 4), .int .i64 (numV (nx (nx (nx (nx (nx (st) 2) 2) 2) 2) 4) 1), .int .i64 (numV (nx (nx (nx (nx (nx (nx (st) 2) 2) 2) 2) 4) 1) 4)] 80)) B0 B0 80 (.slice Av L.length cv) L := hr.alloc (.cells #[.int .i64 (numV st 2), .int .i64 (numV (nx (st) 2) 2), .int .i64 (numV (nx (nx (st) 2) 2) 2), .int .i64 (numV (nx (nx (nx (st) 2) 2) 2) 2), .int .i64 (numV (nx (nx (nx (nx (st) 2) 2) 2) 2) 4), .int .i64 (numV (nx (nx (nx (nx (nx (st) 2) 2) 2) 2) 4) 1), .int .i64 (numV (nx (nx (nx (nx (nx (nx (st) 2) 2) 2) 2) 4) 1) 4)] 80)
        have hc3 := hc.alloc (.cells #[.int .i64 (numV st 2), .int .i64 (numV (nx (st) 2) 2), .int .i64 (numV (nx (nx (st) 2) 2) 2), .int .i64 (numV (nx (nx (nx (st) 2) 2) 2) 2), .int .i64 (numV (nx (nx (nx (nx (st) 2) 2) 2) 2) 4), .int .i64 (numV (nx (nx (nx (nx (nx (st) 2) 2) 2) 2) 4) 1), .int .i64 (numV (nx (nx (nx (nx (nx (nx (st) 2) 2) 2) 2) 4) 1) 4)] 80)
        have D3 := D.below hbx
        have hw3 : B0 ≤ (m29.alloc (.cells #[.int .i64 (numV st 2), .int .i64 (numV (nx (st) 2) 2), .int .i64 (numV (nx (nx (st) 2) 2) 2), .int .i64 (numV (nx (nx (nx (st) 2) 2) 2) 2), .int .i64 (numV (nx (nx (nx (nx (st) 2) 2) 2) 2) 4), .int .i64 (numV (nx (nx (nx (nx (nx (st) 2) 2) 2) 2) 4) 1), .int .i64 (numV (nx (nx (nx (nx (nx (nx (st) 2) 2) 2) 2) 4) 1) 4)] 80)).heap.size := Nat.le_trans hBw hbx.size
        have hL1 : L.length + 1 ≤ maxLen := by unfold maxLen; omega
        have hL2 : (L.length + 1) * 56 ≤ 140737488355328 := by omega
        have hlit : Seen peerK (m29.alloc (.cells #[.int .i64 (numV st 2), .int .i64 (numV (nx (st) 2) 2), .int .i64 (numV (nx (nx (st) 2) 2) 2), .int .i64 (numV (nx (nx (nx (st) 2) 2) 2) 2), .int .i64 (numV (nx (nx (nx (nx (st) 2) 2) 2) 2) 4), .int .i64 (numV (nx (nx (nx (nx (nx (st) 2) 2) 2) 2) 4) 1), .int .i64 (numV (nx (nx (nx (nx (nx (nx (st) 2) 2) 2) 2) 4) 1) 4)] 80)) (fun _ => True) (some ⟨m29.heap.size, 0, none⟩) 1 [p] := seen_one m29 80 p #[.int .i64 (numV st 2), .int .i64 (numV (nx (st) 2) 2), .int .i64 (numV (nx (nx (st) 2) 2) 2), .int .i64 (numV (nx (nx (nx (st) 2) 2) 2) 2), .int .i64 (numV (nx (nx (nx (nx (st) 2) 2) 2) 2) 4), .int .i64 (numV (nx (nx (nx (nx (nx (st) 2) 2) 2) 2) 4) 1), .int .i64 (numV (nx (nx (nx (nx (nx (nx (st) 2) 2) 2) 2) 4) 1) 4)] hX.out (S := fun _ => False) (hokp _ _) (fun _ h => h.elim) trivial (fun _ h => h.elim)
        have hokE : ∀ e ∈ [p], peerK.ok (m29.alloc (.cells #[.int .i64 (numV st 2), .int .i64 (numV (nx (st) 2) 2), .int .i64 (numV (nx (nx (st) 2) 2) 2), .int .i64 (numV (nx (nx (nx (st) 2) 2) 2) 2), .int .i64 (numV (nx (nx (nx (nx (st) 2) 2) 2) 2) 4), .int .i64 (numV (nx (nx (nx (nx (nx (st) 2) 2) 2) 2) 4) 1), .int .i64 (numV (nx (nx (nx (nx (nx (nx (st) 2) 2) 2) 2) 4) 1) 4)] 80)) (fun b => B0 ≤ b ∧ b < (m29.alloc (.cells #[.int .i64 (numV st 2), .int .i64 (numV (nx (st) 2) 2), .int .i64 (numV (nx (nx (st) 2) 2) 2), .int .i64 (numV (nx (nx (nx (st) 2) 2) 2) 2), .int .i64 (numV (nx (nx (nx (nx (st) 2) 2) 2) 2) 4), .int .i64 (numV (nx (nx (nx (nx (nx (st) 2) 2) 2) 2) 4) 1), .int .i64 (numV (nx (nx (nx (nx (nx (nx (st) 2) 2) 2) 2) 4) 1) 4)] 80)).heap.size ∧ (Value.slice Av L.length cv).ownBlock ≠ some b) e := by
          intro e he
          rw [List.mem_singleton.1 he]
          exact hokp _ _
        have hlen2 : (L ++ [p]).length + k ≤ 255 := by simp; omega
        have hlp := Lib.hid (show (L ++ [p]).length = L.length + 1 by simp)
        have hip : (Tryz.prog.info? 80).map (·.size) = some (7 : Nat) := by kernel_rfl
        have z3 := hc.cellv 3 (v := (.slice Av L.length cv)) rfl
        have l3 := hc.lt
        go_upto_region 7 with (first
          | (refine wpList_load_blk rfl hp 80 (.tmp 7) rfl rfl Tryz.underlying80 rfl hip ?_)
          | (at_builtin; refine wpList_rows peerE_ok rfl (.tmp 62) (.tmp 64) rfl hr3 rfl rfl hlit hokE hL1 hL2 hw3 ?_; intro v4 w4 hr4 hg4; obtain ⟨A4, k4, ev4, -, -, -⟩ := hr4.seen (Nat.le_refl _); rw [hlp.out] at ev4; subst ev4; have hb4 := hr3.below_app hg4 hw3; have hc4 := hc3.below hb4 hBa5; have z4 := hc4.cellv 3 (v := (.slice Av L.length cv)) rfl; have f4 := hc4.frozen 3; have l4 := hc4.lt))
        obtain ⟨so1, so2⟩ := blk_store hc4 3 (.slice A4 (L.length + 1) k4)
        have hr5 := rows_grown hr4 so2 hBa5
        have hw4 : B0 ≤ w4.heap.size := Nat.le_trans hw3 hg4.size
        have hw5 := Nat.le_trans hw4 so2.size
        replace D3 := (D3.belowB hb4 hgB).up so2 (by omega)
        clear z3 l3 z4 f4 l4
        generalize w4.setCell ⟨a5, 3, none⟩ (.slice A4 (L.length + 1) k4) = m30 at *
        go_wp2_with fail
        exact ⟨⟨_, k, st2, L ++ [p], by go_num, by omega, by rw [e2.out, List.append_assoc]; rfl, e3.out, hlen2, hr5, so1, D3, hw5⟩, by simp [intOf]⟩
      · have d2 : decide (st.e = 0) = false := by simpa using he
        have d3 : (st.e == 0) = false := by simpa using he
        have e1 : manyP peerP (k + 1) st = ([], st) := by rw [manyP, if_neg he]
        have e2 := hl1.out
        have e3 := hl2.out
        rw [e1] at e2 e3
        rw [List.append_nil] at e2
        replace e2 := Lib.hid e2
        replace e3 := Lib.hid e3
        clear e1 hl1 hl2
        replace he := Lib.hid he
        go_wp2_with fail
        go_meet
        refine ⟨v, by rw [hlist.out, e2.out]; exact hr, hc, ?_, hBw⟩
        rw [show (pS4 l) = st from (congrArg Prod.snd hlist.out).trans e3.out]
        exact D
  case rest =>
  obtain ⟨v, hr0, hc, D, hBw⟩ := hcut
  obtain ⟨A0, k0, rfl, hc0, hm0, hS0⟩ := hr0.seen (Nat.le_refl _)
  clear hr0
  obtain ⟨L0, hL0⟩ : ∃ L, L = (listP peerP (pS3 l)).1 := ⟨_, rfl⟩
  rw [← hL0] at hS0 hc0 hc
  obtain ⟨n0, hn0⟩ : ∃ n, n = L0.length := ⟨_, rfl⟩
  rw [← hn0] at hS0 hc0 hc
  replace hL0 := Lib.hid hL0
  replace hn0 := Lib.hid hn0
  have ha0 : a5 < B0 := hBa5
  clear hBa5
  obtain ⟨U0, hU0⟩ : ∃ U, U = wc.heap.size := ⟨_, rfl⟩
  have hUb0 : B0 ≤ U0 := by omega
  have hUw0 : U0 ≤ wc.heap.size := Nat.le_of_eq hU0
  rw [← hU0] at hS0
  replace hU0 := Lib.hid hU0
  clear hBw
  generalize hwc0 : wc = w00 at *
  clear hwc0
  go_wp2_with fail
  refine (refU8P w00 lo gs _ D.hs).mono ?_
  rintro e m31 ⟨rfl, hs, hg⟩
  replace hs : Ref m31 lo gs (nx (pS4 l) 1) := hs
  replace D := D.src hs hg
  clear hs
  replace hc := hc.grown hg (by have := D.ne; simp; omega)
  replace hS0 := hS0.grown hg fun b q => ⟨by omega, by simp; omega⟩
  replace hUw0 := Nat.le_trans hUw0 hg.size
  clear hg
  obtain ⟨s0V, hs0V⟩ : ∃ s0, s0 = nx (pS4 l) 1 := ⟨_, rfl⟩
  obtain ⟨mV, hmV⟩ : ∃ m : Nat, numV (pS4 l) 1 = m := ⟨(numV (pS4 l) 1).toNat, by have := numV_lo (pS4 l) 1; omega⟩
  have hm255V := numV_1 (pS4 l)
  have hlistV : listP vipP (pS4 l) = manyP vipP mV s0V := by unfold listP; rw [hmV, hs0V]; rfl
  rw [← hs0V] at D
  rw [hmV] at hm255V ⊢
  have hm2V : mV ≤ 255 := by omega
  replace hlistV := Lib.hid hlistV
  clear hs0V hmV hm255V
  obtain ⟨B1, hB1⟩ : ∃ B0, B0 = m31.heap.size := ⟨_, rfl⟩
  have hgBV : gs < B1 := by rw [hB1]; exact D.lt
  have hBa5 : a5 < B1 := by rw [hB1]; exact hc.lt
  have hBw0V : B1 ≤ m31.heap.size := Nat.le_of_eq hB1
  have hUB0 : U0 ≤ B1 := by omega
  replace hB1 := Lib.hid hB1
  go_upto_block 2 with (fail)
  go_cut [] (fun wx => ∃ v : Value, (∃ L, L.map VipV.w = (listP vipP (pS4 l)).1 ∧ Rows vipK wx B1 B1 81 v L) ∧ Blk wx a5 41 #[.int .i64 (numV (pS0 l) 2), .int .u32 (numV (pS1 l) 4), .int .u32 (numV (pS2 l) 4), .slice A0 n0 k0, v, .slice none 0 0, .int .i64 0, .int .i64 0, .int .i64 0, .int .i64 0, .int .i64 0, .int .i64 0, .int .i64 0, .int .i64 0, .int .i64 0, .int .i64 0, .int .i64 0, .int .i64 0, .int .i64 0] ∧ DocR w wx B A n l lo gs (pS5 l) ∧ B1 ≤ wx.heap.size ∧ Seen peerK wx (fun b => B0 ≤ b ∧ b < U0) A0 n0 L0 ∧ U0 ≤ wx.heap.size)
  case first =>
    have hnilV : Rows vipK m31 B1 B1 81 (.slice none 0 0) [] := Rows.nil _ _ _ _
    go_wp2_with fail
    go_loopw [8] (fun nv wr => ∃ (v : Value) (k : Nat) (st : St) (L : List VipV), nv = .int .i64 (k : Int) ∧ k ≤ 255 ∧ (manyP vipP mV s0V).1 = L.map VipV.w ++ (manyP vipP k st).1 ∧ (manyP vipP mV s0V).2 = (manyP vipP k st).2 ∧ L.length + k ≤ 255 ∧ Rows vipK wr B1 B1 81 v L ∧ Blk wr a5 41 #[.int .i64 (numV (pS0 l) 2), .int .u32 (numV (pS1 l) 4), .int .u32 (numV (pS2 l) 4), .slice A0 n0 k0, v, .slice none 0 0, .int .i64 0, .int .i64 0, .int .i64 0, .int .i64 0, .int .i64 0, .int .i64 0, .int .i64 0, .int .i64 0, .int .i64 0, .int .i64 0, .int .i64 0, .int .i64 0, .int .i64 0] ∧ DocR w wr B A n l lo gs st ∧ B1 ≤ wr.heap.size ∧ Seen peerK wr (fun b => B0 ≤ b ∧ b < U0) A0 n0 L0 ∧ U0 ≤ wr.heap.size) (fun nv _ => (intOf nv).toNat)
    case atStart => exact ⟨_, mV, s0V, [], rfl, hm2V, rfl, rfl, by simpa using hm2V, hnilV, hc, D, hBw0V, hS0, hUw0⟩
    case round =>
    clear hc D hBw0V hnilV hS0 hUw0
    obtain ⟨vV, kV, stV, LV, rfl, hkV, hl1, hl2, hlenV, hrV, hc, D, hBwV, hS0, hUw0⟩ := hrel
    replace hl1 := Lib.hid hl1
    replace hl2 := Lib.hid hl2
    have cE := D.hs.e_cell
    have lE := D.lt
    cases kV with
    | zero =>
      have e1 := hl1.out
      have e2 := hl2.out
      rw [manyP] at e1 e2
      rw [List.append_nil] at e1
      replace e1 := Lib.hid e1
      replace e2 := Lib.hid e2
      go_wp2_with fail
      go_meet
      refine ⟨vV, ⟨LV, by rw [hlistV.out, e1.out], hrV⟩, hc, ?_, hBwV, hS0, hUw0⟩
      rw [show (pS5 l) = stV from (congrArg Prod.snd hlistV.out).trans e2.out]
      exact D
    | succ kV =>
      have d1 : decide ((0 : Int) < ((kV + 1 : Nat) : Int)) = true := decide_eq_true (by omega)
      have d1' : (0 : Int) < ((kV + 1 : Nat) : Int) := by omega
      by_cases heV : stV.e = 0
      · have e1 : manyP vipP (kV + 1) stV = ((vipP stV).1 :: (manyP vipP kV (vipP stV).2).1, (manyP vipP kV (vipP stV).2).2) := by rw [manyP, if_pos heV]
        have e2V := hl1.out
        have e3V := hl2.out
        rw [e1] at e2V e3V
        replace e2V := Lib.hid e2V
        replace e3V := Lib.hid e3V
        clear e1 hl1 hl2
        rw [heV] at cE
        replace heV := Lib.hid heV
        obtain ⟨AvV, cvV, rfl, -, -, -⟩ := hrV.seen (Nat.le_refl _)
        obtain ⟨m0, hm0⟩ : ∃ m0, m0 = wr.heap.size := ⟨_, rfl⟩
        have hm0B : B1 ≤ m0 := by omega
        have hm0w : m0 ≤ wr.heap.size := Nat.le_of_eq hm0
        have hok : OkV wr B1 m0 (.slice AvV LV.length cvV) LV := by rw [hm0]; exact hrV.2
        replace hrV : Rows vipT wr B1 B1 81 (.slice AvV LV.length cvV) LV := ⟨hrV.1, fun _ _ => trivial⟩
        have hvo : ∀ q, (Value.slice AvV LV.length cvV).ownBlock = some q → q < m0 := fun q e => by rw [hm0]; exact (hrV.own q e).2
        replace hvo := Lib.hid hvo
        replace hm0 := Lib.hid hm0
        have b1 := numV_lo (stV) 4
        have b2 := numV_4 (stV) 4 (by omega)
        go_wp2_with fail
        refine (refU32P wr lo gs _ D.hs).mono ?_
        rintro e m32 ⟨rfl, hs, hg⟩
        replace hs : Ref m32 lo gs (nx (stV) 4) := hs
        replace D := D.src hs hg
        clear hs
        replace hc := hc.grown hg (by have := D.ne; simp; omega)
        replace hrV := rows_grown hrV hg (by omega)
        have hzg := hg.size
        replace hBwV : B1 ≤ m32.heap.size := Nat.le_trans hBwV hzg
        replace hok := hok.grown hg (.inl (by omega)) hm0w
        replace hm0w : m0 ≤ m32.heap.size := Nat.le_trans hm0w hzg
        clear hzg
        replace hS0 := hS0.grown hg fun b q => ⟨by omega, by simp; omega⟩
        replace hUw0 := Nat.le_trans hUw0 hg.size
        clear hg
        have hbx := (Below.refl m32.heap.size m32).alloc (Nat.le_refl _) (.cells #[.int .u32 (numV stV 4), .int .i64 0, .slice none 0 0] 81)
        have hpV := Blk.new m32 81 #[.int .u32 (numV stV 4), .int .i64 0, .slice none 0 0]
        obtain ⟨b7V, hb7V⟩ : ∃ b, b = m32.heap.size := ⟨_, rfl⟩
        have hne7V : (Value.slice AvV LV.length cvV).ownBlock ≠ some b7V := fun e => by have := hvo.out _ e; omega
        have hB7V : B1 ≤ b7V := by omega
        have hg7V : gs < b7V := by omega
        have hm7 : m0 ≤ b7V := by omega
        go_upto_region 20 with (fail)
        rw [← hb7V] at hpV ⊢
        replace hb7V := Lib.hid hb7V
        generalize m32.alloc (.cells #[.int .u32 (numV stV 4), .int .i64 0, .slice none 0 0] 81) = m33 at *
        replace D := D.below hbx
        replace hc := hc.below hbx hc.lt
        replace hrV := hrV.below hbx
        replace hBwV : B1 ≤ m33.heap.size := Nat.le_trans hBwV hbx.size
        replace hok := hok.below hbx hm0w
        replace hm0w : m0 ≤ m33.heap.size := Nat.le_trans hm0w hbx.size
        replace hS0 := hS0.below hbx fun b q => by omega
        replace hUw0 := Nat.le_trans hUw0 hbx.size
        clear hbx
        go_wp2_with fail
        refine (refU8P m33 lo gs _ D.hs).mono ?_
        rintro e m34 ⟨rfl, hs, hg⟩
        replace hs : Ref m34 lo gs (nx (nx (stV) 4) 1) := hs
        replace D := D.src hs hg
        clear hs
        replace hc := hc.grown hg (by have := D.ne; simp; omega)
        replace hrV := rows_grown hrV hg (by omega)
        have hzg := hg.size
        replace hBwV : B1 ≤ m34.heap.size := Nat.le_trans hBwV hzg
        replace hok := hok.grown hg (.inl (by omega)) hm0w
        replace hm0w : m0 ≤ m34.heap.size := Nat.le_trans hm0w hzg
        clear hzg
        replace hpV := hpV.grown hg (by have := D.ne; simp; omega)
        replace hS0 := hS0.grown hg fun b q => ⟨by omega, by simp; omega⟩
        replace hUw0 := Nat.le_trans hUw0 hg.size
        clear hg
        have z0 := hpV.cellv 1 (v := .int .i64 0) rfl
        have f0 := hpV.frozen 1
        have l0 := hpV.lt
        obtain ⟨so1, so2⟩ := blk_store hpV 1 (.int .i64 (numV (nx (stV) 4) 1))
        go_upto_region 21 with (fail)
        clear f0 l0 z0
        generalize m34.setCell ⟨b7V, 1, none⟩ (.int .i64 (numV (nx (stV) 4) 1)) = m35 at *
        replace hpV : Blk m35 b7V 81 #[.int .u32 (numV stV 4), .int .i64 (numV (nx (stV) 4) 1), .slice none 0 0] := so1
        clear so1
        replace D := D.up so2 (by omega)
        replace hc := hc.grown so2 (by simp; omega)
        replace hrV := rows_keptF vipF hrV so2 (.inr hne7V)
        have hzg := so2.size
        replace hBwV : B1 ≤ m35.heap.size := Nat.le_trans hBwV hzg
        replace hok := hok.grown so2 (.inr (by omega)) hm0w
        replace hm0w : m0 ≤ m35.heap.size := Nat.le_trans hm0w hzg
        clear hzg
        replace hS0 := hS0.grown so2 fun b q => ⟨by omega, by simp; omega⟩
        replace hUw0 := Nat.le_trans hUw0 so2.size
        clear so2
        try clear b1 b2
        go_wp2_with fail
        refine (refU8P m35 lo gs _ D.hs).mono ?_
        rintro e m36 ⟨rfl, hs, hg⟩
        replace hs : Ref m36 lo gs (nx (nx (nx (stV) 4) 1) 1) := hs
        replace D := D.src hs hg
        clear hs
        replace hpV := hpV.grown hg (by have := D.ne; simp; omega)
        replace hS0 := hS0.grown hg fun b q => ⟨by omega, by simp; omega⟩
        replace hUw0 := Nat.le_trans hUw0 hg.size
        replace hc := hc.grown hg (by have := D.ne; simp; omega)
        replace hrV := rows_grown hrV hg (by omega)
        replace hok := hok.grown hg (.inl (by omega)) hm0w
        replace hm0w := Nat.le_trans hm0w hg.size
        replace hBwV := Nat.le_trans hBwV hg.size
        clear hg
        obtain ⟨s0X, hs0X⟩ : ∃ s0, s0 = nx (nx (nx (stV) 4) 1) 1 := ⟨_, rfl⟩
        obtain ⟨mX, hmX⟩ : ∃ m : Nat, numV (nx (nx (stV) 4) 1) 1 = m := ⟨(numV (nx (nx (stV) 4) 1) 1).toNat, by have := numV_lo (nx (nx (stV) 4) 1) 1; omega⟩
        have hm255X := numV_1 (nx (nx (stV) 4) 1)
        have hlistX : listP bndP (nx (nx (stV) 4) 1) = manyP bndP mX s0X := by unfold listP; rw [hmX, hs0X]; rfl
        rw [← hs0X] at D
        rw [hmX] at hm255X ⊢
        have hm2X : mX ≤ 255 := by omega
        replace hlistX := Lib.hid hlistX
        clear hs0X hmX hm255X
        obtain ⟨B2, hB2⟩ : ∃ B0, B0 = m36.heap.size := ⟨_, rfl⟩
        have hgBX : gs < B2 := by rw [hB2]; exact D.lt
        have hBb7V : b7V < B2 := by rw [hB2]; exact hpV.lt
        have hBw0X : B2 ≤ m36.heap.size := Nat.le_of_eq hB2
        have hm0B2 : m0 ≤ B2 := by omega
        have hB12 : B1 ≤ B2 := by omega
        replace hB2 := Lib.hid hB2
        go_upto_block 4 with (fail)
        go_cut [] (fun wx => ∃ v : Value, Rows bndK wx B2 B2 67 v (listP bndP (nx (nx (stV) 4) 1)).1 ∧ Blk wx b7V 81 #[.int .u32 (numV stV 4), .int .i64 (numV (nx (stV) 4) 1), v] ∧ DocR w wx B A n l lo gs (listP bndP (nx (nx (stV) 4) 1)).2 ∧ B2 ≤ wx.heap.size ∧ Seen peerK wx (fun b => B0 ≤ b ∧ b < U0) A0 n0 L0 ∧ U0 ≤ wx.heap.size ∧ Blk wx a5 41 #[.int .i64 (numV (pS0 l) 2), .int .u32 (numV (pS1 l) 4), .int .u32 (numV (pS2 l) 4), .slice A0 n0 k0, .slice AvV LV.length cvV, .slice none 0 0, .int .i64 0, .int .i64 0, .int .i64 0, .int .i64 0, .int .i64 0, .int .i64 0, .int .i64 0, .int .i64 0, .int .i64 0, .int .i64 0, .int .i64 0, .int .i64 0, .int .i64 0] ∧ Rows vipT wx B1 B1 81 (.slice AvV LV.length cvV) LV ∧ OkV wx B1 m0 (.slice AvV LV.length cvV) LV ∧ m0 ≤ wx.heap.size ∧ B1 ≤ wx.heap.size)
        case first =>
          have hnilX : Rows bndK m36 B2 B2 67 (.slice none 0 0) [] := Rows.nil _ _ _ _
          go_wp2_with fail
          go_loopw [10] (fun nv wr => ∃ (v : Value) (k : Nat) (st : St) (L : List BndV), nv = .int .i64 (k : Int) ∧ k ≤ 255 ∧ (manyP bndP mX s0X).1 = L ++ (manyP bndP k st).1 ∧ (manyP bndP mX s0X).2 = (manyP bndP k st).2 ∧ L.length + k ≤ 255 ∧ Rows bndK wr B2 B2 67 v L ∧ Blk wr b7V 81 #[.int .u32 (numV stV 4), .int .i64 (numV (nx (stV) 4) 1), v] ∧ DocR w wr B A n l lo gs st ∧ B2 ≤ wr.heap.size ∧ Seen peerK wr (fun b => B0 ≤ b ∧ b < U0) A0 n0 L0 ∧ U0 ≤ wr.heap.size ∧ Blk wr a5 41 #[.int .i64 (numV (pS0 l) 2), .int .u32 (numV (pS1 l) 4), .int .u32 (numV (pS2 l) 4), .slice A0 n0 k0, .slice AvV LV.length cvV, .slice none 0 0, .int .i64 0, .int .i64 0, .int .i64 0, .int .i64 0, .int .i64 0, .int .i64 0, .int .i64 0, .int .i64 0, .int .i64 0, .int .i64 0, .int .i64 0, .int .i64 0, .int .i64 0] ∧ Rows vipT wr B1 B1 81 (.slice AvV LV.length cvV) LV ∧ OkV wr B1 m0 (.slice AvV LV.length cvV) LV ∧ m0 ≤ wr.heap.size ∧ B1 ≤ wr.heap.size) (fun nv _ => (intOf nv).toNat)
          case atStart => exact ⟨_, mX, s0X, [], rfl, hm2X, rfl, rfl, by simpa using hm2X, hnilX, hpV, D, hBw0X, hS0, hUw0, hc, hrV, hok, hm0w, hBwV⟩
          case round =>
          clear hpV D hBw0X hnilX hS0 hUw0 hc hrV hok hm0w hBwV
          obtain ⟨vX, kX, stX, LX, rfl, hkX, hl1, hl2, hlenX, hrX, hpV, D, hBwX, hS0, hUw0, hc, hrV, hok, hm0w, hBwV⟩ := hrel
          replace hl1 := Lib.hid hl1
          replace hl2 := Lib.hid hl2
          have cE := D.hs.e_cell
          have lE := D.lt
          cases kX with
          | zero =>
            have e1 := hl1.out
            have e2 := hl2.out
            rw [manyP] at e1 e2
            rw [List.append_nil] at e1
            replace e1 := Lib.hid e1
            replace e2 := Lib.hid e2
            go_wp2_with fail
            go_meet
            refine ⟨vX, by rw [hlistX.out, e1.out]; exact hrX, hpV, ?_, hBwX, hS0, hUw0, hc, hrV, hok, hm0w, hBwV⟩
            rw [show (listP bndP (nx (nx (stV) 4) 1)).2 = stX from (congrArg Prod.snd hlistX.out).trans e2.out]
            exact D
          | succ kX =>
            have d1 : decide ((0 : Int) < ((kX + 1 : Nat) : Int)) = true := decide_eq_true (by omega)
            have d1' : (0 : Int) < ((kX + 1 : Nat) : Int) := by omega
            by_cases heX : stX.e = 0
            · have e1 : manyP bndP (kX + 1) stX = ((bndP stX).1 :: (manyP bndP kX (bndP stX).2).1, (manyP bndP kX (bndP stX).2).2) := by rw [manyP, if_pos heX]
              have e2X := hl1.out
              have e3X := hl2.out
              rw [e1] at e2X e3X
              replace e2X := Lib.hid e2X
              replace e3X := Lib.hid e3X
              clear e1 hl1 hl2
              rw [heX] at cE
              replace heX := Lib.hid heX
              obtain ⟨AvX, cvX, rfl, -, -, -⟩ := hrX.seen (Nat.le_refl _)
              go_wp2_with fail
              refine (refU8P wr lo gs _ D.hs).mono ?_
              rintro e m37 ⟨rfl, hs, hg⟩
              replace hs : Ref m37 lo gs (nx (stX) 1) := hs
              replace D := D.src hs hg
              clear hs
              replace hpV := hpV.grown hg (by have := D.ne; simp; omega)
              replace hrX := rows_grown hrX hg (by omega)
              have hzg := hg.size
              replace hBwX : B2 ≤ m37.heap.size := Nat.le_trans hBwX hzg
              clear hzg
              replace hS0 := hS0.grown hg fun b q => ⟨by omega, by simp; omega⟩
              replace hUw0 := Nat.le_trans hUw0 hg.size
              replace hc := hc.grown hg (by have := D.ne; simp; omega)
              replace hrV := rows_grown hrV hg (by omega)
              replace hok := hok.grown hg (.inl (by omega)) hm0w
              replace hm0w := Nat.le_trans hm0w hg.size
              replace hBwV := Nat.le_trans hBwV hg.size
              clear hg
              have hbx := (Below.refl m37.heap.size m37).alloc (Nat.le_refl _) (.cells #[.int .i64 (numV stX 1), .int .u32 0, .int .i64 0] 67)
              have hpX := Blk.new m37 67 #[.int .i64 (numV stX 1), .int .u32 0, .int .i64 0]
              obtain ⟨b7X, hb7X⟩ : ∃ b, b = m37.heap.size := ⟨_, rfl⟩
              have hne7X : (Value.slice AvX LX.length cvX).ownBlock ≠ some b7X := rows_ne hrX (Nat.le_of_eq hb7X.symm)
              have hB7X : B2 ≤ b7X := by omega
              have hg7X : gs < b7X := by omega
              go_upto_region 25 with (fail)
              rw [← hb7X] at hpX ⊢
              replace hb7X := Lib.hid hb7X
              generalize m37.alloc (.cells #[.int .i64 (numV stX 1), .int .u32 0, .int .i64 0] 67) = m38 at *
              replace D := D.below hbx
              replace hpV := hpV.below hbx hpV.lt
              replace hrX := hrX.below hbx
              replace hBwX : B2 ≤ m38.heap.size := Nat.le_trans hBwX hbx.size
              replace hS0 := hS0.below hbx fun b q => by omega
              replace hUw0 := Nat.le_trans hUw0 hbx.size
              replace hc := hc.below hbx hc.lt
              replace hrV := hrV.below hbx
              replace hok := hok.below hbx hm0w
              replace hm0w := Nat.le_trans hm0w hbx.size
              replace hBwV := Nat.le_trans hBwV hbx.size
              clear hbx
              have b1 := numV_lo (nx (stX) 1) 4
              have b2 := numV_4 (nx (stX) 1) 4 (by omega)
              go_wp2_with fail
              refine (refU32P m38 lo gs _ D.hs).mono ?_
              rintro e m39 ⟨rfl, hs, hg⟩
              replace hs : Ref m39 lo gs (nx (nx (stX) 1) 4) := hs
              replace D := D.src hs hg
              clear hs
              replace hpV := hpV.grown hg (by have := D.ne; simp; omega)
              replace hrX := rows_grown hrX hg (by omega)
              have hzg := hg.size
              replace hBwX : B2 ≤ m39.heap.size := Nat.le_trans hBwX hzg
              clear hzg
              replace hpX := hpX.grown hg (by have := D.ne; simp; omega)
              replace hS0 := hS0.grown hg fun b q => ⟨by omega, by simp; omega⟩
              replace hUw0 := Nat.le_trans hUw0 hg.size
              replace hc := hc.grown hg (by have := D.ne; simp; omega)
              replace hrV := rows_grown hrV hg (by omega)
              replace hok := hok.grown hg (.inl (by omega)) hm0w
              replace hm0w := Nat.le_trans hm0w hg.size
              replace hBwV := Nat.le_trans hBwV hg.size
              clear hg
              have z0 := hpX.cellv 1 (v := .int .u32 0) rfl
              have f0 := hpX.frozen 1
              have l0 := hpX.lt
              obtain ⟨so1, so2⟩ := blk_store hpX 1 (.int .u32 (numV (nx (stX) 1) 4))
              go_upto_region 26 with (fail)
              clear f0 l0 z0
              generalize m39.setCell ⟨b7X, 1, none⟩ (.int .u32 (numV (nx (stX) 1) 4)) = m40 at *
              replace hpX : Blk m40 b7X 67 #[.int .i64 (numV stX 1), .int .u32 (numV (nx (stX) 1) 4), .int .i64 0] := so1
              clear so1
              replace D := D.up so2 (by omega)
              replace hpV := hpV.grown so2 (by simp; omega)
              replace hrX := rows_keptF bndF hrX so2 (.inr hne7X)
              have hzg := so2.size
              replace hBwX : B2 ≤ m40.heap.size := Nat.le_trans hBwX hzg
              clear hzg
              replace hS0 := hS0.grown so2 fun b q => ⟨by omega, by simp; omega⟩
              replace hUw0 := Nat.le_trans hUw0 so2.size
              replace hc := hc.grown so2 (by simp; omega)
              replace hrV := rows_keptF vipF hrV so2 (.inr (fun e => by have := hvo.out _ e; omega))
              replace hok := hok.grown so2 (.inr (by omega)) hm0w
              replace hm0w := Nat.le_trans hm0w so2.size
              replace hBwV := Nat.le_trans hBwV so2.size
              clear so2
              try clear b1 b2
              go_wp2_with fail
              refine (refU8P m40 lo gs _ D.hs).mono ?_
              rintro e m41 ⟨rfl, hs, hg⟩
              replace hs : Ref m41 lo gs (nx (nx (nx (stX) 1) 4) 1) := hs
              replace D := D.src hs hg
              clear hs
              replace hpV := hpV.grown hg (by have := D.ne; simp; omega)
              replace hrX := rows_grown hrX hg (by omega)
              have hzg := hg.size
              replace hBwX : B2 ≤ m41.heap.size := Nat.le_trans hBwX hzg
              clear hzg
              replace hpX := hpX.grown hg (by have := D.ne; simp; omega)
              replace hS0 := hS0.grown hg fun b q => ⟨by omega, by simp; omega⟩
              replace hUw0 := Nat.le_trans hUw0 hg.size
              replace hc := hc.grown hg (by have := D.ne; simp; omega)
              replace hrV := rows_grown hrV hg (by omega)
              replace hok := hok.grown hg (.inl (by omega)) hm0w
              replace hm0w := Nat.le_trans hm0w hg.size
              replace hBwV := Nat.le_trans hBwV hg.size
              clear hg
              have z0 := hpX.cellv 2 (v := .int .i64 0) rfl
              have f0 := hpX.frozen 2
              have l0 := hpX.lt
              obtain ⟨so1, so2⟩ := blk_store hpX 2 (.int .i64 (numV (nx (nx (stX) 1) 4) 1))
              go_upto_region 27 with (fail)
              clear f0 l0 z0
              generalize m41.setCell ⟨b7X, 2, none⟩ (.int .i64 (numV (nx (nx (stX) 1) 4) 1)) = m42 at *
              replace hpX : Blk m42 b7X 67 #[.int .i64 (numV stX 1), .int .u32 (numV (nx (stX) 1) 4), .int .i64 (numV (nx (nx (stX) 1) 4) 1)] := so1
              clear so1
              replace D := D.up so2 (by omega)
              replace hpV := hpV.grown so2 (by simp; omega)
              replace hrX := rows_keptF bndF hrX so2 (.inr hne7X)
              have hzg := so2.size
              replace hBwX : B2 ≤ m42.heap.size := Nat.le_trans hBwX hzg
              clear hzg
              replace hS0 := hS0.grown so2 fun b q => ⟨by omega, by simp; omega⟩
              replace hUw0 := Nat.le_trans hUw0 so2.size
              replace hc := hc.grown so2 (by simp; omega)
              replace hrV := rows_keptF vipF hrV so2 (.inr (fun e => by have := hvo.out _ e; omega))
              replace hok := hok.grown so2 (.inr (by omega)) hm0w
              replace hm0w := Nat.le_trans hm0w so2.size
              replace hBwV := Nat.le_trans hBwV so2.size
              clear so2
              try clear b1 b2
              obtain ⟨st2X, hst2X⟩ : ∃ s, s = nx (nx (nx (stX) 1) 4) 1 := ⟨_, rfl⟩
              obtain ⟨pX, hp2X⟩ : ∃ p, p = (bndP stX).1 := ⟨_, rfl⟩
              have e4 : (bndP stX).2 = st2X := by rw [hst2X]; rfl
              have hX : (#[.int .i64 (numV stX 1), .int .u32 (numV (nx (stX) 1) 4), .int .i64 (numV (nx (nx (stX) 1) 4) 1)] : Array Value).toList = bndK.cel pX := by rw [hp2X]; rfl
              have hokp : ∀ (w : World) (S : Nat → Prop), bndK.ok w S pX := fun w S => by rw [hp2X]; exact bndP_ok stX w S
              have e2X := e2X.out
              have e3X := e3X.out
              rw [← hp2X, e4] at e2X
              rw [e4] at e3X
              rw [← hst2X] at D
              replace e2X := Lib.hid e2X
              replace e3X := Lib.hid e3X
              replace hX := Lib.hid hX
              clear hst2X hp2X e4
              have hbx := (Below.refl m42.heap.size m42).alloc (Nat.le_refl _) (.cells #[.int .i64 (numV stX 1), .int .u32 (numV (nx (stX) 1) 4), .int .i64 (numV (nx (nx (stX) 1) 4) 1)] 67)
              have hr3 : Rows bndK (m42.alloc (.cells #[.int .i64 (numV stX 1), .int .u32 (numV (nx (stX) 1) 4), .int .i64 (numV (nx (nx (stX) 1) 4) 1)] 67)) B2 B2 67 (.slice AvX LX.length cvX) LX := hrX.alloc (.cells #[.int .i64 (numV stX 1), .int .u32 (numV (nx (stX) 1) 4), .int .i64 (numV (nx (nx (stX) 1) 4) 1)] 67)
              have hc3 := hpV.alloc (.cells #[.int .i64 (numV stX 1), .int .u32 (numV (nx (stX) 1) 4), .int .i64 (numV (nx (nx (stX) 1) 4) 1)] 67)
              have D3 := D.below hbx
              have hw3 : B2 ≤ (m42.alloc (.cells #[.int .i64 (numV stX 1), .int .u32 (numV (nx (stX) 1) 4), .int .i64 (numV (nx (nx (stX) 1) 4) 1)] 67)).heap.size := Nat.le_trans hBwX hbx.size
              have hL1 : LX.length + 1 ≤ maxLen := by unfold maxLen; omega
              have hL2 : (LX.length + 1) * 24 ≤ 140737488355328 := by omega
              have hlit : Seen bndK (m42.alloc (.cells #[.int .i64 (numV stX 1), .int .u32 (numV (nx (stX) 1) 4), .int .i64 (numV (nx (nx (stX) 1) 4) 1)] 67)) (fun _ => True) (some ⟨m42.heap.size, 0, none⟩) 1 [pX] := seen_one m42 67 pX #[.int .i64 (numV stX 1), .int .u32 (numV (nx (stX) 1) 4), .int .i64 (numV (nx (nx (stX) 1) 4) 1)] hX.out (S := fun _ => False) (hokp _ _) (fun _ h => h.elim) trivial (fun _ h => h.elim)
              have hokE : ∀ e ∈ [pX], bndK.ok (m42.alloc (.cells #[.int .i64 (numV stX 1), .int .u32 (numV (nx (stX) 1) 4), .int .i64 (numV (nx (nx (stX) 1) 4) 1)] 67)) (fun b => B2 ≤ b ∧ b < (m42.alloc (.cells #[.int .i64 (numV stX 1), .int .u32 (numV (nx (stX) 1) 4), .int .i64 (numV (nx (nx (stX) 1) 4) 1)] 67)).heap.size ∧ (Value.slice AvX LX.length cvX).ownBlock ≠ some b) e := by
                intro e he
                rw [List.mem_singleton.1 he]
                exact hokp _ _
              have hlen2 : (LX ++ [pX]).length + kX ≤ 255 := by simp; omega
              have hlp := Lib.hid (show (LX ++ [pX]).length = LX.length + 1 by simp)
              have hip : (Tryz.prog.info? 67).map (·.size) = some (3 : Nat) := by kernel_rfl
              have z3 := hpV.cellv 2 (v := (.slice AvX LX.length cvX)) rfl
              have l3 := hpV.lt
              go_upto_region 23 with (first
                | (refine wpList_load_blk rfl hpX 67 (.tmp 11) rfl rfl Tryz.underlying67 rfl hip ?_)
                | (at_builtin; refine wpList_rows bndM_ok rfl (.tmp 109) (.tmp 111) rfl hr3 rfl rfl hlit hokE hL1 hL2 hw3 ?_; intro v4 w4 hr4 hg4; obtain ⟨A4, k4, ev4, -, -, -⟩ := hr4.seen (Nat.le_refl _); rw [hlp.out] at ev4; subst ev4; have hb4 := hr3.below_app hg4 hw3; have hc4 := hc3.below hb4 hBb7V; have z4 := hc4.cellv 2 (v := (.slice AvX LX.length cvX)) rfl; have f4 := hc4.frozen 2; have l4 := hc4.lt))
              obtain ⟨so1, so2⟩ := blk_store hc4 2 (.slice A4 (LX.length + 1) k4)
              have hr5 := rows_grown hr4 so2 hBb7V
              have hw4 : B2 ≤ w4.heap.size := Nat.le_trans hw3 hg4.size
              have hw5 := Nat.le_trans hw4 so2.size
              replace D3 := (D3.belowB hb4 hgBX).up so2 (by omega)
              clear z3 l3 z4 f4 l4
              generalize w4.setCell ⟨b7V, 2, none⟩ (.slice A4 (LX.length + 1) k4) = m43 at *
              go_wp2_with fail
              exact ⟨⟨_, kX, st2X, LX ++ [pX], by go_num, by omega, by rw [e2X.out, List.append_assoc]; rfl, e3X.out, hlen2, hr5, so1, D3, hw5, ((hS0.below hbx fun b q => by omega).below hb4 fun b q => by omega).grown so2 fun b q => ⟨by omega, by simp; omega⟩, (by omega), ((hc.below hbx hc.lt).below hb4 (by omega)).grown so2 (by simp; omega), rows_keptF vipF (rows_keptF vipF (hrV.below hbx) hg4 (own_apart hvo.out (fun q e => (hrX.own q e).1) (by omega))) so2 (.inr (fun e => by have := hvo.out _ e; omega)), ((hok.below hbx hm0w).below hb4 (by omega)).grown so2 (.inr (by omega)) (by omega), (by omega), (by omega)⟩, by simp [intOf]⟩
            · have d2 : decide (stX.e = 0) = false := by simpa using heX
              have d3 : (stX.e == 0) = false := by simpa using heX
              have e1 : manyP bndP (kX + 1) stX = ([], stX) := by rw [manyP, if_neg heX]
              have e2 := hl1.out
              have e3 := hl2.out
              rw [e1] at e2 e3
              rw [List.append_nil] at e2
              replace e2 := Lib.hid e2
              replace e3 := Lib.hid e3
              clear e1 hl1 hl2
              replace heX := Lib.hid heX
              go_wp2_with fail
              go_meet
              refine ⟨vX, by rw [hlistX.out, e2.out]; exact hrX, hpV, ?_, hBwX, hS0, hUw0, hc, hrV, hok, hm0w, hBwV⟩
              rw [show (listP bndP (nx (nx (stV) 4) 1)).2 = stX from (congrArg Prod.snd hlistX.out).trans e3.out]
              exact D
        case rest =>
        obtain ⟨v, hrX, hpV, D, hBwX, hS0, hUw0, hc, hrV, hok, hm0w, hBwV⟩ := hcut
        obtain ⟨AX, kX, rfl, hcX, hmX, hSX⟩ := hrX.seen (Nat.le_refl _)
        clear hrX
        obtain ⟨LX, hLX⟩ : ∃ L, L = (listP bndP (nx (nx (stV) 4) 1)).1 := ⟨_, rfl⟩
        rw [← hLX] at hSX hcX hpV
        obtain ⟨nX, hnX⟩ : ∃ n, n = LX.length := ⟨_, rfl⟩
        rw [← hnX] at hSX hcX hpV
        obtain ⟨st2V, hst2⟩ : ∃ s, s = (listP bndP (nx (nx (stV) 4) 1)).2 := ⟨_, rfl⟩
        rw [← hst2] at D
        obtain ⟨pV, hpV2⟩ : ∃ p : VipV, p = ⟨numV stV 4, numV (nx stV 4) 1, AX, nX, kX, LX⟩ := ⟨_, rfl⟩
        have hpw : (vipP stV).1 = pV.w := by rw [hpV2]; unfold VipV.w vipP; rw [hLX]
        have e4 : (vipP stV).2 = st2V := by rw [hst2]; rfl
        have e2V : (manyP vipP mV s0V).1 = (LV ++ [pV]).map VipV.w ++ (manyP vipP kV st2V).1 := by rw [e2V.out, hpw, e4, List.map_append, List.append_assoc]; rfl
        have e3V : (manyP vipP mV s0V).2 = (manyP vipP kV st2V).2 := by rw [e3V.out, e4]
        have hX : (#[.int .u32 (numV stV 4), .int .i64 (numV (nx stV 4) 1), .slice AX nX kX] : Array Value).toList = vipK.cel pV := by rw [hpV2]; rfl
        have hokp : vipK.ok wc (fun b => B2 ≤ b ∧ b < wc.heap.size) pV := by rw [hpV2]; exact ⟨numV_u _ _ (by omega), numV_i _ _ (by omega), hcX, hmX, hSX⟩
        replace hX := Lib.hid hX
        replace e2V := Lib.hid e2V
        replace e3V := Lib.hid e3V
        clear hSX hLX hst2 hpV2 hpw e4 hnX
        generalize hwc0 : wc = w6 at *
        clear hwc0
        have hbx := (Below.refl w6.heap.size w6).alloc (Nat.le_refl _) (.cells #[.int .u32 (numV stV 4), .int .i64 (numV (nx (stV) 4) 1), .slice AX nX kX] 81)
        have hr3 : Rows vipK (w6.alloc (.cells #[.int .u32 (numV stV 4), .int .i64 (numV (nx (stV) 4) 1), .slice AX nX kX] 81)) B1 B1 81 (.slice AvV LV.length cvV) LV := ⟨(hrV.alloc (.cells #[.int .u32 (numV stV 4), .int .i64 (numV (nx (stV) 4) 1), .slice AX nX kX] 81)).1, fun x hx => vipK.more (hok.below hbx hm0w x hx) fun b q => ⟨q.1, by have := hbx.size; have := q.2.1; omega, q.2.2⟩⟩
        have hc3 := hc.alloc (.cells #[.int .u32 (numV stV 4), .int .i64 (numV (nx (stV) 4) 1), .slice AX nX kX] 81)
        have D3 := D.below hbx
        have hw3 : B1 ≤ (w6.alloc (.cells #[.int .u32 (numV stV 4), .int .i64 (numV (nx (stV) 4) 1), .slice AX nX kX] 81)).heap.size := Nat.le_trans hBwV hbx.size
        have hL1 : LV.length + 1 ≤ maxLen := by unfold maxLen; omega
        have hL2 : (LV.length + 1) * 40 ≤ 140737488355328 := by omega
        have hlit : Seen vipK (w6.alloc (.cells #[.int .u32 (numV stV 4), .int .i64 (numV (nx (stV) 4) 1), .slice AX nX kX] 81)) (fun _ => True) (some ⟨w6.heap.size, 0, none⟩) 1 [pV] := seen_one w6 81 pV #[.int .u32 (numV stV 4), .int .i64 (numV (nx (stV) 4) 1), .slice AX nX kX] hX.out (S := fun b => b < w6.heap.size) (vipK.more hokp fun b q => q.2) (fun _ h => h) trivial (fun _ _ => trivial)
        have hokE : ∀ e ∈ [pV], vipK.ok (w6.alloc (.cells #[.int .u32 (numV stV 4), .int .i64 (numV (nx (stV) 4) 1), .slice AX nX kX] 81)) (fun b => B1 ≤ b ∧ b < (w6.alloc (.cells #[.int .u32 (numV stV 4), .int .i64 (numV (nx (stV) 4) 1), .slice AX nX kX] 81)).heap.size ∧ (Value.slice AvV LV.length cvV).ownBlock ≠ some b) e := by
          intro e he
          rw [List.mem_singleton.1 he]
          exact vipK.more (vipK.keep hokp fun q hq => hbx.cell hq.2) fun b q => ⟨by have := q.1; omega, Nat.lt_of_lt_of_le q.2 hbx.size, fun e => by have := hvo.out _ e; have := q.1; omega⟩
        have hlen2 : (LV ++ [pV]).length + kV ≤ 255 := by simp; omega
        have hlp := Lib.hid (show (LV ++ [pV]).length = LV.length + 1 by simp)
        have hip : (Tryz.prog.info? 81).map (·.size) = some (3 : Nat) := by kernel_rfl
        have z3 := hc.cellv 4 (v := (.slice AvV LV.length cvV)) rfl
        have l3 := hc.lt
        go_upto_region 18 with (first
          | (refine wpList_load_blk rfl hpV 81 (.tmp 9) rfl rfl Tryz.underlying81 rfl hip ?_)
          | (at_builtin; refine wpList_rows vipEK_ok rfl (.tmp 115) (.tmp 117) rfl hr3 rfl rfl hlit hokE hL1 hL2 hw3 ?_; intro v4 w4 hr4 hg4; obtain ⟨A4, k4, ev4, -, -, -⟩ := hr4.seen (Nat.le_refl _); rw [hlp.out] at ev4; subst ev4; have hb4 := hr3.below_app hg4 hw3; have hc4 := hc3.below hb4 hBa5; have z4 := hc4.cellv 4 (v := (.slice AvV LV.length cvV)) rfl; have f4 := hc4.frozen 4; have l4 := hc4.lt))
        obtain ⟨so1, so2⟩ := blk_store hc4 4 (.slice A4 (LV.length + 1) k4)
        have hr5 := rows_grown hr4 so2 hBa5
        have hw4 : B1 ≤ w4.heap.size := Nat.le_trans hw3 hg4.size
        have hw5 := Nat.le_trans hw4 so2.size
        replace D3 := (D3.belowB hb4 hgBV).up so2 (by omega)
        clear z3 l3 z4 f4 l4
        generalize w4.setCell ⟨a5, 4, none⟩ (.slice A4 (LV.length + 1) k4) = m44 at *
        go_wp2_with fail
        exact ⟨⟨_, kV, st2V, LV ++ [pV], by go_num, by omega, e2V.out, e3V.out, hlen2, hr5, so1, D3, hw5, ((hS0.below hbx fun b q => by omega).below hb4 fun b q => by omega).grown so2 fun b q => ⟨by omega, by simp; omega⟩, (by omega)⟩, by simp [intOf]⟩
      · have d2 : decide (stV.e = 0) = false := by simpa using heV
        have d3 : (stV.e == 0) = false := by simpa using heV
        have e1 : manyP vipP (kV + 1) stV = ([], stV) := by rw [manyP, if_neg heV]
        have e2 := hl1.out
        have e3 := hl2.out
        rw [e1] at e2 e3
        rw [List.append_nil] at e2
        replace e2 := Lib.hid e2
        replace e3 := Lib.hid e3
        clear e1 hl1 hl2
        replace heV := Lib.hid heV
        go_wp2_with fail
        go_meet
        refine ⟨vV, ⟨LV, by rw [hlistV.out, e2.out], hrV⟩, hc, ?_, hBwV, hS0, hUw0⟩
        rw [show (pS5 l) = stV from (congrArg Prod.snd hlistV.out).trans e3.out]
        exact D
  case rest =>
  obtain ⟨v, ⟨L1, hL1, hr1⟩, hc, D, hBw, hS0, hUw0⟩ := hcut
  obtain ⟨A1, k1, rfl, hc1, hm1, hS1⟩ := hr1.seen (Nat.le_refl _)
  clear hr1
  obtain ⟨n1, hn1⟩ : ∃ n, n = L1.length := ⟨_, rfl⟩
  rw [← hn1] at hS1 hc1 hc
  replace hL1 := Lib.hid hL1
  replace hn1 := Lib.hid hn1
  have ha1 : a5 < B1 := hBa5
  clear hBa5
  obtain ⟨U1, hU1⟩ : ∃ U, U = wc.heap.size := ⟨_, rfl⟩
  have hUb1 : B1 ≤ U1 := by omega
  have hUw1 : U1 ≤ wc.heap.size := Nat.le_of_eq hU1
  rw [← hU1] at hS1
  replace hU1 := Lib.hid hU1
  clear hBw
  generalize hwc0 : wc = w01 at *
  clear hwc0
  go_wp2_with fail
  refine (refU8P w01 lo gs _ D.hs).mono ?_
  rintro e m45 ⟨rfl, hs, hg⟩
  replace hs : Ref m45 lo gs (nx (pS5 l) 1) := hs
  replace D := D.src hs hg
  clear hs
  replace hc := hc.grown hg (by have := D.ne; simp; omega)
  replace hS0 := hS0.grown hg fun b q => ⟨by omega, by simp; omega⟩
  replace hUw0 := Nat.le_trans hUw0 hg.size
  replace hS1 := hS1.grown hg fun b q => ⟨by omega, by simp; omega⟩
  replace hUw1 := Nat.le_trans hUw1 hg.size
  clear hg
  obtain ⟨s0S, hs0S⟩ : ∃ s0, s0 = nx (pS5 l) 1 := ⟨_, rfl⟩
  obtain ⟨mS, hmS⟩ : ∃ m : Nat, numV (pS5 l) 1 = m := ⟨(numV (pS5 l) 1).toNat, by have := numV_lo (pS5 l) 1; omega⟩
  have hm255S := numV_1 (pS5 l)
  have hlistS : listP siteP (pS5 l) = manyP siteP mS s0S := by unfold listP; rw [hmS, hs0S]; rfl
  rw [← hs0S] at D
  rw [hmS] at hm255S ⊢
  have hm2S : mS ≤ 255 := by omega
  replace hlistS := Lib.hid hlistS
  clear hs0S hmS hm255S
  obtain ⟨B3, hB3⟩ : ∃ B0, B0 = m45.heap.size := ⟨_, rfl⟩
  have hgBS : gs < B3 := by rw [hB3]; exact D.lt
  have hBa5 : a5 < B3 := by rw [hB3]; exact hc.lt
  have hBw0S : B3 ≤ m45.heap.size := Nat.le_of_eq hB3
  have hUB1 : U1 ≤ B3 := by omega
  have hUB03 : U0 ≤ B3 := by omega
  replace hB3 := Lib.hid hB3
  go_upto_block 6 with (fail)
  go_cut [] (fun wx => ∃ v : Value, Rows siteK wx B3 B3 82 v (listP siteP (pS5 l)).1 ∧ Blk wx a5 41 #[.int .i64 (numV (pS0 l) 2), .int .u32 (numV (pS1 l) 4), .int .u32 (numV (pS2 l) 4), .slice A0 n0 k0, .slice A1 n1 k1, v, .int .i64 0, .int .i64 0, .int .i64 0, .int .i64 0, .int .i64 0, .int .i64 0, .int .i64 0, .int .i64 0, .int .i64 0, .int .i64 0, .int .i64 0, .int .i64 0, .int .i64 0] ∧ DocR w wx B A n l lo gs (pS6 l) ∧ B3 ≤ wx.heap.size ∧ Seen peerK wx (fun b => B0 ≤ b ∧ b < U0) A0 n0 L0 ∧ U0 ≤ wx.heap.size ∧ Seen vipK wx (fun b => B1 ≤ b ∧ b < U1) A1 n1 L1 ∧ U1 ≤ wx.heap.size)
  case first =>
    have hnilS : Rows siteK m45 B3 B3 82 (.slice none 0 0) [] := Rows.nil _ _ _ _
    go_wp2_with fail
    go_loopw [12] (fun nv wr => ∃ (v : Value) (k : Nat) (st : St) (L : List SiteV), nv = .int .i64 (k : Int) ∧ k ≤ 255 ∧ (manyP siteP mS s0S).1 = L ++ (manyP siteP k st).1 ∧ (manyP siteP mS s0S).2 = (manyP siteP k st).2 ∧ L.length + k ≤ 255 ∧ Rows siteK wr B3 B3 82 v L ∧ Blk wr a5 41 #[.int .i64 (numV (pS0 l) 2), .int .u32 (numV (pS1 l) 4), .int .u32 (numV (pS2 l) 4), .slice A0 n0 k0, .slice A1 n1 k1, v, .int .i64 0, .int .i64 0, .int .i64 0, .int .i64 0, .int .i64 0, .int .i64 0, .int .i64 0, .int .i64 0, .int .i64 0, .int .i64 0, .int .i64 0, .int .i64 0, .int .i64 0] ∧ DocR w wr B A n l lo gs st ∧ B3 ≤ wr.heap.size ∧ Seen peerK wr (fun b => B0 ≤ b ∧ b < U0) A0 n0 L0 ∧ U0 ≤ wr.heap.size ∧ Seen vipK wr (fun b => B1 ≤ b ∧ b < U1) A1 n1 L1 ∧ U1 ≤ wr.heap.size) (fun nv _ => (intOf nv).toNat)
    case atStart => exact ⟨_, mS, s0S, [], rfl, hm2S, rfl, rfl, by simpa using hm2S, hnilS, hc, D, hBw0S, hS0, hUw0, hS1, hUw1⟩
    case round =>
    clear hc D hBw0S hnilS hS0 hUw0 hS1 hUw1
    obtain ⟨vS, kS, stS, LS, rfl, hkS, hl1, hl2, hlenS, hrS, hc, D, hBwS, hS0, hUw0, hS1, hUw1⟩ := hrel
    replace hl1 := Lib.hid hl1
    replace hl2 := Lib.hid hl2
    have cE := D.hs.e_cell
    have lE := D.lt
    cases kS with
    | zero =>
      have e1 := hl1.out
      have e2 := hl2.out
      rw [manyP] at e1 e2
      rw [List.append_nil] at e1
      replace e1 := Lib.hid e1
      replace e2 := Lib.hid e2
      go_wp2_with fail
      go_meet
      refine ⟨vS, by rw [hlistS.out, e1.out]; exact hrS, hc, ?_, hBwS, hS0, hUw0, hS1, hUw1⟩
      rw [show (pS6 l) = stS from (congrArg Prod.snd hlistS.out).trans e2.out]
      exact D
    | succ kS =>
      have d1 : decide ((0 : Int) < ((kS + 1 : Nat) : Int)) = true := decide_eq_true (by omega)
      have d1' : (0 : Int) < ((kS + 1 : Nat) : Int) := by omega
      by_cases heS : stS.e = 0
      · have e1 : manyP siteP (kS + 1) stS = ((siteP stS).1 :: (manyP siteP kS (siteP stS).2).1, (manyP siteP kS (siteP stS).2).2) := by rw [manyP, if_pos heS]
        have e2S := hl1.out
        have e3S := hl2.out
        rw [e1] at e2S e3S
        replace e2S := Lib.hid e2S
        replace e3S := Lib.hid e3S
        clear e1 hl1 hl2
        rw [heS] at cE
        replace heS := Lib.hid heS
        obtain ⟨AvS, cvS, rfl, -, -, -⟩ := hrS.seen (Nat.le_refl _)
        go_wp2_with fail
        refine (refU8P wr lo gs _ D.hs).mono ?_
        rintro e m46 ⟨rfl, hs, hg⟩
        replace hs : Ref m46 lo gs (nx (stS) 1) := hs
        replace D := D.src hs hg
        clear hs
        replace hc := hc.grown hg (by have := D.ne; simp; omega)
        replace hrS := rows_grown hrS hg (by omega)
        have hzg := hg.size
        replace hBwS : B3 ≤ m46.heap.size := Nat.le_trans hBwS hzg
        clear hzg
        replace hS0 := hS0.grown hg fun b q => ⟨by omega, by simp; omega⟩
        replace hUw0 := Nat.le_trans hUw0 hg.size
        replace hS1 := hS1.grown hg fun b q => ⟨by omega, by simp; omega⟩
        replace hUw1 := Nat.le_trans hUw1 hg.size
        clear hg
        have hbx := (Below.refl m46.heap.size m46).alloc (Nat.le_refl _) (.cells #[.int .i64 (numV stS 1), .int .u32 0, .int .i64 0] 82)
        have hpS := Blk.new m46 82 #[.int .i64 (numV stS 1), .int .u32 0, .int .i64 0]
        obtain ⟨b7S, hb7S⟩ : ∃ b, b = m46.heap.size := ⟨_, rfl⟩
        have hne7S : (Value.slice AvS LS.length cvS).ownBlock ≠ some b7S := rows_ne hrS (Nat.le_of_eq hb7S.symm)
        have hB7S : B3 ≤ b7S := by omega
        have hg7S : gs < b7S := by omega
        go_upto_region 33 with (fail)
        rw [← hb7S] at hpS ⊢
        replace hb7S := Lib.hid hb7S
        generalize m46.alloc (.cells #[.int .i64 (numV stS 1), .int .u32 0, .int .i64 0] 82) = m47 at *
        replace D := D.below hbx
        replace hc := hc.below hbx hc.lt
        replace hrS := hrS.below hbx
        replace hBwS : B3 ≤ m47.heap.size := Nat.le_trans hBwS hbx.size
        replace hS0 := hS0.below hbx fun b q => by omega
        replace hUw0 := Nat.le_trans hUw0 hbx.size
        replace hS1 := hS1.below hbx fun b q => by omega
        replace hUw1 := Nat.le_trans hUw1 hbx.size
        clear hbx
        have b1 := numV_lo (nx (stS) 1) 4
        have b2 := numV_4 (nx (stS) 1) 4 (by omega)
        go_wp2_with fail
        refine (refU32P m47 lo gs _ D.hs).mono ?_
        rintro e m48 ⟨rfl, hs, hg⟩
        replace hs : Ref m48 lo gs (nx (nx (stS) 1) 4) := hs
        replace D := D.src hs hg
        clear hs
        replace hc := hc.grown hg (by have := D.ne; simp; omega)
        replace hrS := rows_grown hrS hg (by omega)
        have hzg := hg.size
        replace hBwS : B3 ≤ m48.heap.size := Nat.le_trans hBwS hzg
        clear hzg
        replace hpS := hpS.grown hg (by have := D.ne; simp; omega)
        replace hS0 := hS0.grown hg fun b q => ⟨by omega, by simp; omega⟩
        replace hUw0 := Nat.le_trans hUw0 hg.size
        replace hS1 := hS1.grown hg fun b q => ⟨by omega, by simp; omega⟩
        replace hUw1 := Nat.le_trans hUw1 hg.size
        clear hg
        have z0 := hpS.cellv 1 (v := .int .u32 0) rfl
        have f0 := hpS.frozen 1
        have l0 := hpS.lt
        obtain ⟨so1, so2⟩ := blk_store hpS 1 (.int .u32 (numV (nx (stS) 1) 4))
        go_upto_region 34 with (fail)
        clear f0 l0 z0
        generalize m48.setCell ⟨b7S, 1, none⟩ (.int .u32 (numV (nx (stS) 1) 4)) = m49 at *
        replace hpS : Blk m49 b7S 82 #[.int .i64 (numV stS 1), .int .u32 (numV (nx (stS) 1) 4), .int .i64 0] := so1
        clear so1
        replace D := D.up so2 (by omega)
        replace hc := hc.grown so2 (by simp; omega)
        replace hrS := rows_keptF siteF hrS so2 (.inr hne7S)
        have hzg := so2.size
        replace hBwS : B3 ≤ m49.heap.size := Nat.le_trans hBwS hzg
        clear hzg
        replace hS0 := hS0.grown so2 fun b q => ⟨by omega, by simp; omega⟩
        replace hUw0 := Nat.le_trans hUw0 so2.size
        replace hS1 := hS1.grown so2 fun b q => ⟨by omega, by simp; omega⟩
        replace hUw1 := Nat.le_trans hUw1 so2.size
        clear so2
        try clear b1 b2
        have b1 := numV_lo (nx (nx (stS) 1) 4) 4
        have b2 := numV_4 (nx (nx (stS) 1) 4) 4 (by omega)
        go_wp2_with fail
        refine (refU32P m49 lo gs _ D.hs).mono ?_
        rintro e m50 ⟨rfl, hs, hg⟩
        replace hs : Ref m50 lo gs (nx (nx (nx (stS) 1) 4) 4) := hs
        replace D := D.src hs hg
        clear hs
        replace hc := hc.grown hg (by have := D.ne; simp; omega)
        replace hrS := rows_grown hrS hg (by omega)
        have hzg := hg.size
        replace hBwS : B3 ≤ m50.heap.size := Nat.le_trans hBwS hzg
        clear hzg
        replace hpS := hpS.grown hg (by have := D.ne; simp; omega)
        replace hS0 := hS0.grown hg fun b q => ⟨by omega, by simp; omega⟩
        replace hUw0 := Nat.le_trans hUw0 hg.size
        replace hS1 := hS1.grown hg fun b q => ⟨by omega, by simp; omega⟩
        replace hUw1 := Nat.le_trans hUw1 hg.size
        clear hg
        have z0 := hpS.cellv 2 (v := .int .i64 0) rfl
        have f0 := hpS.frozen 2
        have l0 := hpS.lt
        obtain ⟨so1, so2⟩ := blk_store hpS 2 (.int .i64 (numV (nx (nx (stS) 1) 4) 4))
        go_upto_region 35 with (fail)
        clear f0 l0 z0
        generalize m50.setCell ⟨b7S, 2, none⟩ (.int .i64 (numV (nx (nx (stS) 1) 4) 4)) = m51 at *
        replace hpS : Blk m51 b7S 82 #[.int .i64 (numV stS 1), .int .u32 (numV (nx (stS) 1) 4), .int .i64 (numV (nx (nx (stS) 1) 4) 4)] := so1
        clear so1
        replace D := D.up so2 (by omega)
        replace hc := hc.grown so2 (by simp; omega)
        replace hrS := rows_keptF siteF hrS so2 (.inr hne7S)
        have hzg := so2.size
        replace hBwS : B3 ≤ m51.heap.size := Nat.le_trans hBwS hzg
        clear hzg
        replace hS0 := hS0.grown so2 fun b q => ⟨by omega, by simp; omega⟩
        replace hUw0 := Nat.le_trans hUw0 so2.size
        replace hS1 := hS1.grown so2 fun b q => ⟨by omega, by simp; omega⟩
        replace hUw1 := Nat.le_trans hUw1 so2.size
        clear so2
        try clear b1 b2
        obtain ⟨st2S, hst2S⟩ : ∃ s, s = nx (nx (nx (stS) 1) 4) 4 := ⟨_, rfl⟩
        obtain ⟨pS, hp2S⟩ : ∃ p, p = (siteP stS).1 := ⟨_, rfl⟩
        have e4 : (siteP stS).2 = st2S := by rw [hst2S]; rfl
        have hX : (#[.int .i64 (numV stS 1), .int .u32 (numV (nx (stS) 1) 4), .int .i64 (numV (nx (nx (stS) 1) 4) 4)] : Array Value).toList = siteK.cel pS := by rw [hp2S]; rfl
        have hokp : ∀ (w : World) (S : Nat → Prop), siteK.ok w S pS := fun w S => by rw [hp2S]; exact siteP_ok stS w S
        have e2S := e2S.out
        have e3S := e3S.out
        rw [← hp2S, e4] at e2S
        rw [e4] at e3S
        rw [← hst2S] at D
        replace e2S := Lib.hid e2S
        replace e3S := Lib.hid e3S
        replace hX := Lib.hid hX
        clear hst2S hp2S e4
        have hbx := (Below.refl m51.heap.size m51).alloc (Nat.le_refl _) (.cells #[.int .i64 (numV stS 1), .int .u32 (numV (nx (stS) 1) 4), .int .i64 (numV (nx (nx (stS) 1) 4) 4)] 82)
        have hr3 : Rows siteK (m51.alloc (.cells #[.int .i64 (numV stS 1), .int .u32 (numV (nx (stS) 1) 4), .int .i64 (numV (nx (nx (stS) 1) 4) 4)] 82)) B3 B3 82 (.slice AvS LS.length cvS) LS := hrS.alloc (.cells #[.int .i64 (numV stS 1), .int .u32 (numV (nx (stS) 1) 4), .int .i64 (numV (nx (nx (stS) 1) 4) 4)] 82)
        have hc3 := hc.alloc (.cells #[.int .i64 (numV stS 1), .int .u32 (numV (nx (stS) 1) 4), .int .i64 (numV (nx (nx (stS) 1) 4) 4)] 82)
        have D3 := D.below hbx
        have hw3 : B3 ≤ (m51.alloc (.cells #[.int .i64 (numV stS 1), .int .u32 (numV (nx (stS) 1) 4), .int .i64 (numV (nx (nx (stS) 1) 4) 4)] 82)).heap.size := Nat.le_trans hBwS hbx.size
        have hL1 : LS.length + 1 ≤ maxLen := by unfold maxLen; omega
        have hL2 : (LS.length + 1) * 24 ≤ 140737488355328 := by omega
        have hlit : Seen siteK (m51.alloc (.cells #[.int .i64 (numV stS 1), .int .u32 (numV (nx (stS) 1) 4), .int .i64 (numV (nx (nx (stS) 1) 4) 4)] 82)) (fun _ => True) (some ⟨m51.heap.size, 0, none⟩) 1 [pS] := seen_one m51 82 pS #[.int .i64 (numV stS 1), .int .u32 (numV (nx (stS) 1) 4), .int .i64 (numV (nx (nx (stS) 1) 4) 4)] hX.out (S := fun _ => False) (hokp _ _) (fun _ h => h.elim) trivial (fun _ h => h.elim)
        have hokE : ∀ e ∈ [pS], siteK.ok (m51.alloc (.cells #[.int .i64 (numV stS 1), .int .u32 (numV (nx (stS) 1) 4), .int .i64 (numV (nx (nx (stS) 1) 4) 4)] 82)) (fun b => B3 ≤ b ∧ b < (m51.alloc (.cells #[.int .i64 (numV stS 1), .int .u32 (numV (nx (stS) 1) 4), .int .i64 (numV (nx (nx (stS) 1) 4) 4)] 82)).heap.size ∧ (Value.slice AvS LS.length cvS).ownBlock ≠ some b) e := by
          intro e he
          rw [List.mem_singleton.1 he]
          exact hokp _ _
        have hlen2 : (LS ++ [pS]).length + kS ≤ 255 := by simp; omega
        have hlp := Lib.hid (show (LS ++ [pS]).length = LS.length + 1 by simp)
        have hip : (Tryz.prog.info? 82).map (·.size) = some (3 : Nat) := by kernel_rfl
        have z3 := hc.cellv 5 (v := (.slice AvS LS.length cvS)) rfl
        have l3 := hc.lt
        go_upto_region 31 with (first
          | (refine wpList_load_blk rfl hpS 82 (.tmp 13) rfl rfl Tryz.underlying82 rfl hip ?_)
          | (at_builtin; refine wpList_rows siteE_ok rfl (.tmp 144) (.tmp 146) rfl hr3 rfl rfl hlit hokE hL1 hL2 hw3 ?_; intro v4 w4 hr4 hg4; obtain ⟨A4, k4, ev4, -, -, -⟩ := hr4.seen (Nat.le_refl _); rw [hlp.out] at ev4; subst ev4; have hb4 := hr3.below_app hg4 hw3; have hc4 := hc3.below hb4 hBa5; have z4 := hc4.cellv 5 (v := (.slice AvS LS.length cvS)) rfl; have f4 := hc4.frozen 5; have l4 := hc4.lt))
        obtain ⟨so1, so2⟩ := blk_store hc4 5 (.slice A4 (LS.length + 1) k4)
        have hr5 := rows_grown hr4 so2 hBa5
        have hw4 : B3 ≤ w4.heap.size := Nat.le_trans hw3 hg4.size
        have hw5 := Nat.le_trans hw4 so2.size
        replace D3 := (D3.belowB hb4 hgBS).up so2 (by omega)
        clear z3 l3 z4 f4 l4
        generalize w4.setCell ⟨a5, 5, none⟩ (.slice A4 (LS.length + 1) k4) = m52 at *
        go_wp2_with fail
        exact ⟨⟨_, kS, st2S, LS ++ [pS], by go_num, by omega, by rw [e2S.out, List.append_assoc]; rfl, e3S.out, hlen2, hr5, so1, D3, hw5, ((hS0.below hbx fun b q => by omega).below hb4 fun b q => by omega).grown so2 fun b q => ⟨by omega, by simp; omega⟩, (by omega), ((hS1.below hbx fun b q => by omega).below hb4 fun b q => by omega).grown so2 fun b q => ⟨by omega, by simp; omega⟩, (by omega)⟩, by simp [intOf]⟩
      · have d2 : decide (stS.e = 0) = false := by simpa using heS
        have d3 : (stS.e == 0) = false := by simpa using heS
        have e1 : manyP siteP (kS + 1) stS = ([], stS) := by rw [manyP, if_neg heS]
        have e2 := hl1.out
        have e3 := hl2.out
        rw [e1] at e2 e3
        rw [List.append_nil] at e2
        replace e2 := Lib.hid e2
        replace e3 := Lib.hid e3
        clear e1 hl1 hl2
        replace heS := Lib.hid heS
        go_wp2_with fail
        go_meet
        refine ⟨vS, by rw [hlistS.out, e2.out]; exact hrS, hc, ?_, hBwS, hS0, hUw0, hS1, hUw1⟩
        rw [show (pS6 l) = stS from (congrArg Prod.snd hlistS.out).trans e3.out]
        exact D
  case rest =>
  obtain ⟨v, hr2, hc, D, hBw, hS0, hUw0, hS1, hUw1⟩ := hcut
  obtain ⟨A2, k2, rfl, hc2, hm2, hS2⟩ := hr2.seen (Nat.le_refl _)
  clear hr2
  obtain ⟨L2, hL2⟩ : ∃ L, L = (listP siteP (pS5 l)).1 := ⟨_, rfl⟩
  rw [← hL2] at hS2 hc2 hc
  obtain ⟨n2, hn2⟩ : ∃ n, n = L2.length := ⟨_, rfl⟩
  rw [← hn2] at hS2 hc2 hc
  replace hL2 := Lib.hid hL2
  replace hn2 := Lib.hid hn2
  have ha2 : a5 < B3 := hBa5
  clear hBa5
  obtain ⟨U2, hU2⟩ : ∃ U, U = wc.heap.size := ⟨_, rfl⟩
  have hUb2 : B3 ≤ U2 := by omega
  have hUw2 : U2 ≤ wc.heap.size := Nat.le_of_eq hU2
  rw [← hU2] at hS2
  replace hU2 := Lib.hid hU2
  clear hBw
  generalize hwc0 : wc = w02 at *
  clear hwc0
  go_wp2_with fail
  refine (refU8P w02 lo gs _ D.hs).mono ?_
  rintro e m53 ⟨rfl, hs, hg⟩
  replace hs : Ref m53 lo gs (pS7 l) := hs
  replace D := D.src hs hg
  clear hs
  replace hc := hc.grown hg (by have := D.ne; simp; omega)
  replace hS0 := hS0.grown hg fun b q => ⟨by omega, by simp; omega⟩
  replace hUw0 := Nat.le_trans hUw0 hg.size
  replace hS1 := hS1.grown hg fun b q => ⟨by omega, by simp; omega⟩
  replace hUw1 := Nat.le_trans hUw1 hg.size
  replace hS2 := hS2.grown hg fun b q => ⟨by omega, by simp; omega⟩
  replace hUw2 := Nat.le_trans hUw2 hg.size
  clear hg
  have z0 := hc.cellv 6 (v := .int .i64 0) rfl
  have f0 := hc.frozen 6
  have l0 := hc.lt
  obtain ⟨so1, so2⟩ := blk_store hc 6 (.int .i64 (numV (pS6 l) 1))
  go_upto_region 37 with (fail)
  clear f0 l0 z0
  generalize m53.setCell ⟨a5, 6, none⟩ (.int .i64 (numV (pS6 l) 1)) = m54 at *
  replace hc : Blk m54 a5 41 #[.int .i64 (numV (pS0 l) 2), .int .u32 (numV (pS1 l) 4), .int .u32 (numV (pS2 l) 4), .slice A0 n0 k0, .slice A1 n1 k1, .slice A2 n2 k2, .int .i64 (numV (pS6 l) 1), .int .i64 0, .int .i64 0, .int .i64 0, .int .i64 0, .int .i64 0, .int .i64 0, .int .i64 0, .int .i64 0, .int .i64 0, .int .i64 0, .int .i64 0, .int .i64 0] := so1
  clear so1
  replace D := D.up so2 (by omega)
  replace hS0 := hS0.grown so2 fun b q => ⟨by omega, by simp; omega⟩
  replace hUw0 := Nat.le_trans hUw0 so2.size
  replace hS1 := hS1.grown so2 fun b q => ⟨by omega, by simp; omega⟩
  replace hUw1 := Nat.le_trans hUw1 so2.size
  replace hS2 := hS2.grown so2 fun b q => ⟨by omega, by simp; omega⟩
  replace hUw2 := Nat.le_trans hUw2 so2.size
  clear so2
  try clear b1 b2
  go_wp2_with fail
  refine (refU8P m54 lo gs _ D.hs).mono ?_
  rintro e m55 ⟨rfl, hs, hg⟩
  replace hs : Ref m55 lo gs (pS8 l) := hs
  replace D := D.src hs hg
  clear hs
  replace hc := hc.grown hg (by have := D.ne; simp; omega)
  replace hS0 := hS0.grown hg fun b q => ⟨by omega, by simp; omega⟩
  replace hUw0 := Nat.le_trans hUw0 hg.size
  replace hS1 := hS1.grown hg fun b q => ⟨by omega, by simp; omega⟩
  replace hUw1 := Nat.le_trans hUw1 hg.size
  replace hS2 := hS2.grown hg fun b q => ⟨by omega, by simp; omega⟩
  replace hUw2 := Nat.le_trans hUw2 hg.size
  clear hg
  have z0 := hc.cellv 7 (v := .int .i64 0) rfl
  have f0 := hc.frozen 7
  have l0 := hc.lt
  obtain ⟨so1, so2⟩ := blk_store hc 7 (.int .i64 (numV (pS7 l) 1))
  go_upto_region 38 with (fail)
  clear f0 l0 z0
  generalize m55.setCell ⟨a5, 7, none⟩ (.int .i64 (numV (pS7 l) 1)) = m56 at *
  replace hc : Blk m56 a5 41 #[.int .i64 (numV (pS0 l) 2), .int .u32 (numV (pS1 l) 4), .int .u32 (numV (pS2 l) 4), .slice A0 n0 k0, .slice A1 n1 k1, .slice A2 n2 k2, .int .i64 (numV (pS6 l) 1), .int .i64 (numV (pS7 l) 1), .int .i64 0, .int .i64 0, .int .i64 0, .int .i64 0, .int .i64 0, .int .i64 0, .int .i64 0, .int .i64 0, .int .i64 0, .int .i64 0, .int .i64 0] := so1
  clear so1
  replace D := D.up so2 (by omega)
  replace hS0 := hS0.grown so2 fun b q => ⟨by omega, by simp; omega⟩
  replace hUw0 := Nat.le_trans hUw0 so2.size
  replace hS1 := hS1.grown so2 fun b q => ⟨by omega, by simp; omega⟩
  replace hUw1 := Nat.le_trans hUw1 so2.size
  replace hS2 := hS2.grown so2 fun b q => ⟨by omega, by simp; omega⟩
  replace hUw2 := Nat.le_trans hUw2 so2.size
  clear so2
  try clear b1 b2
  go_wp2_with fail
  refine (refU16P m56 lo gs _ D.hs).mono ?_
  rintro e m57 ⟨rfl, hs, hg⟩
  replace hs : Ref m57 lo gs (pS9 l) := hs
  replace D := D.src hs hg
  clear hs
  replace hc := hc.grown hg (by have := D.ne; simp; omega)
  replace hS0 := hS0.grown hg fun b q => ⟨by omega, by simp; omega⟩
  replace hUw0 := Nat.le_trans hUw0 hg.size
  replace hS1 := hS1.grown hg fun b q => ⟨by omega, by simp; omega⟩
  replace hUw1 := Nat.le_trans hUw1 hg.size
  replace hS2 := hS2.grown hg fun b q => ⟨by omega, by simp; omega⟩
  replace hUw2 := Nat.le_trans hUw2 hg.size
  clear hg
  have z0 := hc.cellv 8 (v := .int .i64 0) rfl
  have f0 := hc.frozen 8
  have l0 := hc.lt
  obtain ⟨so1, so2⟩ := blk_store hc 8 (.int .i64 (numV (pS8 l) 2))
  go_upto_region 39 with (fail)
  clear f0 l0 z0
  generalize m57.setCell ⟨a5, 8, none⟩ (.int .i64 (numV (pS8 l) 2)) = m58 at *
  replace hc : Blk m58 a5 41 #[.int .i64 (numV (pS0 l) 2), .int .u32 (numV (pS1 l) 4), .int .u32 (numV (pS2 l) 4), .slice A0 n0 k0, .slice A1 n1 k1, .slice A2 n2 k2, .int .i64 (numV (pS6 l) 1), .int .i64 (numV (pS7 l) 1), .int .i64 (numV (pS8 l) 2), .int .i64 0, .int .i64 0, .int .i64 0, .int .i64 0, .int .i64 0, .int .i64 0, .int .i64 0, .int .i64 0, .int .i64 0, .int .i64 0] := so1
  clear so1
  replace D := D.up so2 (by omega)
  replace hS0 := hS0.grown so2 fun b q => ⟨by omega, by simp; omega⟩
  replace hUw0 := Nat.le_trans hUw0 so2.size
  replace hS1 := hS1.grown so2 fun b q => ⟨by omega, by simp; omega⟩
  replace hUw1 := Nat.le_trans hUw1 so2.size
  replace hS2 := hS2.grown so2 fun b q => ⟨by omega, by simp; omega⟩
  replace hUw2 := Nat.le_trans hUw2 so2.size
  clear so2
  try clear b1 b2
  go_wp2_with fail
  refine (refU16P m58 lo gs _ D.hs).mono ?_
  rintro e m59 ⟨rfl, hs, hg⟩
  replace hs : Ref m59 lo gs (pS10 l) := hs
  replace D := D.src hs hg
  clear hs
  replace hc := hc.grown hg (by have := D.ne; simp; omega)
  replace hS0 := hS0.grown hg fun b q => ⟨by omega, by simp; omega⟩
  replace hUw0 := Nat.le_trans hUw0 hg.size
  replace hS1 := hS1.grown hg fun b q => ⟨by omega, by simp; omega⟩
  replace hUw1 := Nat.le_trans hUw1 hg.size
  replace hS2 := hS2.grown hg fun b q => ⟨by omega, by simp; omega⟩
  replace hUw2 := Nat.le_trans hUw2 hg.size
  clear hg
  have z0 := hc.cellv 9 (v := .int .i64 0) rfl
  have f0 := hc.frozen 9
  have l0 := hc.lt
  obtain ⟨so1, so2⟩ := blk_store hc 9 (.int .i64 (numV (pS9 l) 2))
  go_upto_region 40 with (fail)
  clear f0 l0 z0
  generalize m59.setCell ⟨a5, 9, none⟩ (.int .i64 (numV (pS9 l) 2)) = m60 at *
  replace hc : Blk m60 a5 41 #[.int .i64 (numV (pS0 l) 2), .int .u32 (numV (pS1 l) 4), .int .u32 (numV (pS2 l) 4), .slice A0 n0 k0, .slice A1 n1 k1, .slice A2 n2 k2, .int .i64 (numV (pS6 l) 1), .int .i64 (numV (pS7 l) 1), .int .i64 (numV (pS8 l) 2), .int .i64 (numV (pS9 l) 2), .int .i64 0, .int .i64 0, .int .i64 0, .int .i64 0, .int .i64 0, .int .i64 0, .int .i64 0, .int .i64 0, .int .i64 0] := so1
  clear so1
  replace D := D.up so2 (by omega)
  replace hS0 := hS0.grown so2 fun b q => ⟨by omega, by simp; omega⟩
  replace hUw0 := Nat.le_trans hUw0 so2.size
  replace hS1 := hS1.grown so2 fun b q => ⟨by omega, by simp; omega⟩
  replace hUw1 := Nat.le_trans hUw1 so2.size
  replace hS2 := hS2.grown so2 fun b q => ⟨by omega, by simp; omega⟩
  replace hUw2 := Nat.le_trans hUw2 so2.size
  clear so2
  try clear b1 b2
  go_wp2_with fail
  refine (refU16P m60 lo gs _ D.hs).mono ?_
  rintro e m61 ⟨rfl, hs, hg⟩
  replace hs : Ref m61 lo gs (pS11 l) := hs
  replace D := D.src hs hg
  clear hs
  replace hc := hc.grown hg (by have := D.ne; simp; omega)
  replace hS0 := hS0.grown hg fun b q => ⟨by omega, by simp; omega⟩
  replace hUw0 := Nat.le_trans hUw0 hg.size
  replace hS1 := hS1.grown hg fun b q => ⟨by omega, by simp; omega⟩
  replace hUw1 := Nat.le_trans hUw1 hg.size
  replace hS2 := hS2.grown hg fun b q => ⟨by omega, by simp; omega⟩
  replace hUw2 := Nat.le_trans hUw2 hg.size
  clear hg
  have z0 := hc.cellv 10 (v := .int .i64 0) rfl
  have f0 := hc.frozen 10
  have l0 := hc.lt
  obtain ⟨so1, so2⟩ := blk_store hc 10 (.int .i64 (numV (pS10 l) 2))
  go_upto_region 41 with (fail)
  clear f0 l0 z0
  generalize m61.setCell ⟨a5, 10, none⟩ (.int .i64 (numV (pS10 l) 2)) = m62 at *
  replace hc : Blk m62 a5 41 #[.int .i64 (numV (pS0 l) 2), .int .u32 (numV (pS1 l) 4), .int .u32 (numV (pS2 l) 4), .slice A0 n0 k0, .slice A1 n1 k1, .slice A2 n2 k2, .int .i64 (numV (pS6 l) 1), .int .i64 (numV (pS7 l) 1), .int .i64 (numV (pS8 l) 2), .int .i64 (numV (pS9 l) 2), .int .i64 (numV (pS10 l) 2), .int .i64 0, .int .i64 0, .int .i64 0, .int .i64 0, .int .i64 0, .int .i64 0, .int .i64 0, .int .i64 0] := so1
  clear so1
  replace D := D.up so2 (by omega)
  replace hS0 := hS0.grown so2 fun b q => ⟨by omega, by simp; omega⟩
  replace hUw0 := Nat.le_trans hUw0 so2.size
  replace hS1 := hS1.grown so2 fun b q => ⟨by omega, by simp; omega⟩
  replace hUw1 := Nat.le_trans hUw1 so2.size
  replace hS2 := hS2.grown so2 fun b q => ⟨by omega, by simp; omega⟩
  replace hUw2 := Nat.le_trans hUw2 so2.size
  clear so2
  try clear b1 b2
  have b1 := numV_lo (pS11 l) 4
  have b2 := numV_4 (pS11 l) 4 (by omega)
  go_wp2_with fail
  refine (refU32P m62 lo gs _ D.hs).mono ?_
  rintro e m63 ⟨rfl, hs, hg⟩
  replace hs : Ref m63 lo gs (pS12 l) := hs
  replace D := D.src hs hg
  clear hs
  replace hc := hc.grown hg (by have := D.ne; simp; omega)
  replace hS0 := hS0.grown hg fun b q => ⟨by omega, by simp; omega⟩
  replace hUw0 := Nat.le_trans hUw0 hg.size
  replace hS1 := hS1.grown hg fun b q => ⟨by omega, by simp; omega⟩
  replace hUw1 := Nat.le_trans hUw1 hg.size
  replace hS2 := hS2.grown hg fun b q => ⟨by omega, by simp; omega⟩
  replace hUw2 := Nat.le_trans hUw2 hg.size
  clear hg
  have z0 := hc.cellv 11 (v := .int .i64 0) rfl
  have f0 := hc.frozen 11
  have l0 := hc.lt
  obtain ⟨so1, so2⟩ := blk_store hc 11 (.int .i64 (numV (pS11 l) 4))
  go_upto_region 42 with (fail)
  clear f0 l0 z0
  generalize m63.setCell ⟨a5, 11, none⟩ (.int .i64 (numV (pS11 l) 4)) = m64 at *
  replace hc : Blk m64 a5 41 #[.int .i64 (numV (pS0 l) 2), .int .u32 (numV (pS1 l) 4), .int .u32 (numV (pS2 l) 4), .slice A0 n0 k0, .slice A1 n1 k1, .slice A2 n2 k2, .int .i64 (numV (pS6 l) 1), .int .i64 (numV (pS7 l) 1), .int .i64 (numV (pS8 l) 2), .int .i64 (numV (pS9 l) 2), .int .i64 (numV (pS10 l) 2), .int .i64 (numV (pS11 l) 4), .int .i64 0, .int .i64 0, .int .i64 0, .int .i64 0, .int .i64 0, .int .i64 0, .int .i64 0] := so1
  clear so1
  replace D := D.up so2 (by omega)
  replace hS0 := hS0.grown so2 fun b q => ⟨by omega, by simp; omega⟩
  replace hUw0 := Nat.le_trans hUw0 so2.size
  replace hS1 := hS1.grown so2 fun b q => ⟨by omega, by simp; omega⟩
  replace hUw1 := Nat.le_trans hUw1 so2.size
  replace hS2 := hS2.grown so2 fun b q => ⟨by omega, by simp; omega⟩
  replace hUw2 := Nat.le_trans hUw2 so2.size
  clear so2
  try clear b1 b2
  have b1 := numV_lo (pS12 l) 4
  have b2 := numV_4 (pS12 l) 4 (by omega)
  go_wp2_with fail
  refine (refU32P m64 lo gs _ D.hs).mono ?_
  rintro e m65 ⟨rfl, hs, hg⟩
  replace hs : Ref m65 lo gs (pS13 l) := hs
  replace D := D.src hs hg
  clear hs
  replace hc := hc.grown hg (by have := D.ne; simp; omega)
  replace hS0 := hS0.grown hg fun b q => ⟨by omega, by simp; omega⟩
  replace hUw0 := Nat.le_trans hUw0 hg.size
  replace hS1 := hS1.grown hg fun b q => ⟨by omega, by simp; omega⟩
  replace hUw1 := Nat.le_trans hUw1 hg.size
  replace hS2 := hS2.grown hg fun b q => ⟨by omega, by simp; omega⟩
  replace hUw2 := Nat.le_trans hUw2 hg.size
  clear hg
  have z0 := hc.cellv 12 (v := .int .i64 0) rfl
  have f0 := hc.frozen 12
  have l0 := hc.lt
  obtain ⟨so1, so2⟩ := blk_store hc 12 (.int .i64 (numV (pS12 l) 4))
  go_upto_region 43 with (fail)
  clear f0 l0 z0
  generalize m65.setCell ⟨a5, 12, none⟩ (.int .i64 (numV (pS12 l) 4)) = m66 at *
  replace hc : Blk m66 a5 41 #[.int .i64 (numV (pS0 l) 2), .int .u32 (numV (pS1 l) 4), .int .u32 (numV (pS2 l) 4), .slice A0 n0 k0, .slice A1 n1 k1, .slice A2 n2 k2, .int .i64 (numV (pS6 l) 1), .int .i64 (numV (pS7 l) 1), .int .i64 (numV (pS8 l) 2), .int .i64 (numV (pS9 l) 2), .int .i64 (numV (pS10 l) 2), .int .i64 (numV (pS11 l) 4), .int .i64 (numV (pS12 l) 4), .int .i64 0, .int .i64 0, .int .i64 0, .int .i64 0, .int .i64 0, .int .i64 0] := so1
  clear so1
  replace D := D.up so2 (by omega)
  replace hS0 := hS0.grown so2 fun b q => ⟨by omega, by simp; omega⟩
  replace hUw0 := Nat.le_trans hUw0 so2.size
  replace hS1 := hS1.grown so2 fun b q => ⟨by omega, by simp; omega⟩
  replace hUw1 := Nat.le_trans hUw1 so2.size
  replace hS2 := hS2.grown so2 fun b q => ⟨by omega, by simp; omega⟩
  replace hUw2 := Nat.le_trans hUw2 so2.size
  clear so2
  try clear b1 b2
  have b1 := numV_lo (pS13 l) 4
  have b2 := numV_4 (pS13 l) 4 (by omega)
  go_wp2_with fail
  refine (refU32P m66 lo gs _ D.hs).mono ?_
  rintro e m67 ⟨rfl, hs, hg⟩
  replace hs : Ref m67 lo gs (pS14 l) := hs
  replace D := D.src hs hg
  clear hs
  replace hc := hc.grown hg (by have := D.ne; simp; omega)
  replace hS0 := hS0.grown hg fun b q => ⟨by omega, by simp; omega⟩
  replace hUw0 := Nat.le_trans hUw0 hg.size
  replace hS1 := hS1.grown hg fun b q => ⟨by omega, by simp; omega⟩
  replace hUw1 := Nat.le_trans hUw1 hg.size
  replace hS2 := hS2.grown hg fun b q => ⟨by omega, by simp; omega⟩
  replace hUw2 := Nat.le_trans hUw2 hg.size
  clear hg
  have z0 := hc.cellv 13 (v := .int .i64 0) rfl
  have f0 := hc.frozen 13
  have l0 := hc.lt
  obtain ⟨so1, so2⟩ := blk_store hc 13 (.int .i64 (numV (pS13 l) 4))
  go_upto_region 44 with (fail)
  clear f0 l0 z0
  generalize m67.setCell ⟨a5, 13, none⟩ (.int .i64 (numV (pS13 l) 4)) = m68 at *
  replace hc : Blk m68 a5 41 #[.int .i64 (numV (pS0 l) 2), .int .u32 (numV (pS1 l) 4), .int .u32 (numV (pS2 l) 4), .slice A0 n0 k0, .slice A1 n1 k1, .slice A2 n2 k2, .int .i64 (numV (pS6 l) 1), .int .i64 (numV (pS7 l) 1), .int .i64 (numV (pS8 l) 2), .int .i64 (numV (pS9 l) 2), .int .i64 (numV (pS10 l) 2), .int .i64 (numV (pS11 l) 4), .int .i64 (numV (pS12 l) 4), .int .i64 (numV (pS13 l) 4), .int .i64 0, .int .i64 0, .int .i64 0, .int .i64 0, .int .i64 0] := so1
  clear so1
  replace D := D.up so2 (by omega)
  replace hS0 := hS0.grown so2 fun b q => ⟨by omega, by simp; omega⟩
  replace hUw0 := Nat.le_trans hUw0 so2.size
  replace hS1 := hS1.grown so2 fun b q => ⟨by omega, by simp; omega⟩
  replace hUw1 := Nat.le_trans hUw1 so2.size
  replace hS2 := hS2.grown so2 fun b q => ⟨by omega, by simp; omega⟩
  replace hUw2 := Nat.le_trans hUw2 so2.size
  clear so2
  try clear b1 b2
  have b1 := numV_lo (pS14 l) 4
  have b2 := numV_4 (pS14 l) 4 (by omega)
  go_wp2_with fail
  refine (refU32P m68 lo gs _ D.hs).mono ?_
  rintro e m69 ⟨rfl, hs, hg⟩
  replace hs : Ref m69 lo gs (pS15 l) := hs
  replace D := D.src hs hg
  clear hs
  replace hc := hc.grown hg (by have := D.ne; simp; omega)
  replace hS0 := hS0.grown hg fun b q => ⟨by omega, by simp; omega⟩
  replace hUw0 := Nat.le_trans hUw0 hg.size
  replace hS1 := hS1.grown hg fun b q => ⟨by omega, by simp; omega⟩
  replace hUw1 := Nat.le_trans hUw1 hg.size
  replace hS2 := hS2.grown hg fun b q => ⟨by omega, by simp; omega⟩
  replace hUw2 := Nat.le_trans hUw2 hg.size
  clear hg
  have z0 := hc.cellv 14 (v := .int .i64 0) rfl
  have f0 := hc.frozen 14
  have l0 := hc.lt
  obtain ⟨so1, so2⟩ := blk_store hc 14 (.int .i64 (numV (pS14 l) 4))
  go_upto_region 45 with (fail)
  clear f0 l0 z0
  generalize m69.setCell ⟨a5, 14, none⟩ (.int .i64 (numV (pS14 l) 4)) = m70 at *
  replace hc : Blk m70 a5 41 #[.int .i64 (numV (pS0 l) 2), .int .u32 (numV (pS1 l) 4), .int .u32 (numV (pS2 l) 4), .slice A0 n0 k0, .slice A1 n1 k1, .slice A2 n2 k2, .int .i64 (numV (pS6 l) 1), .int .i64 (numV (pS7 l) 1), .int .i64 (numV (pS8 l) 2), .int .i64 (numV (pS9 l) 2), .int .i64 (numV (pS10 l) 2), .int .i64 (numV (pS11 l) 4), .int .i64 (numV (pS12 l) 4), .int .i64 (numV (pS13 l) 4), .int .i64 (numV (pS14 l) 4), .int .i64 0, .int .i64 0, .int .i64 0, .int .i64 0] := so1
  clear so1
  replace D := D.up so2 (by omega)
  replace hS0 := hS0.grown so2 fun b q => ⟨by omega, by simp; omega⟩
  replace hUw0 := Nat.le_trans hUw0 so2.size
  replace hS1 := hS1.grown so2 fun b q => ⟨by omega, by simp; omega⟩
  replace hUw1 := Nat.le_trans hUw1 so2.size
  replace hS2 := hS2.grown so2 fun b q => ⟨by omega, by simp; omega⟩
  replace hUw2 := Nat.le_trans hUw2 so2.size
  clear so2
  try clear b1 b2
  have b1 := numV_lo (pS15 l) 4
  have b2 := numV_4 (pS15 l) 4 (by omega)
  go_wp2_with fail
  refine (refU32P m70 lo gs _ D.hs).mono ?_
  rintro e m71 ⟨rfl, hs, hg⟩
  replace hs : Ref m71 lo gs (pS16 l) := hs
  replace D := D.src hs hg
  clear hs
  replace hc := hc.grown hg (by have := D.ne; simp; omega)
  replace hS0 := hS0.grown hg fun b q => ⟨by omega, by simp; omega⟩
  replace hUw0 := Nat.le_trans hUw0 hg.size
  replace hS1 := hS1.grown hg fun b q => ⟨by omega, by simp; omega⟩
  replace hUw1 := Nat.le_trans hUw1 hg.size
  replace hS2 := hS2.grown hg fun b q => ⟨by omega, by simp; omega⟩
  replace hUw2 := Nat.le_trans hUw2 hg.size
  clear hg
  have z0 := hc.cellv 15 (v := .int .i64 0) rfl
  have f0 := hc.frozen 15
  have l0 := hc.lt
  obtain ⟨so1, so2⟩ := blk_store hc 15 (.int .i64 (numV (pS15 l) 4))
  go_upto_region 46 with (fail)
  clear f0 l0 z0
  generalize m71.setCell ⟨a5, 15, none⟩ (.int .i64 (numV (pS15 l) 4)) = m72 at *
  replace hc : Blk m72 a5 41 #[.int .i64 (numV (pS0 l) 2), .int .u32 (numV (pS1 l) 4), .int .u32 (numV (pS2 l) 4), .slice A0 n0 k0, .slice A1 n1 k1, .slice A2 n2 k2, .int .i64 (numV (pS6 l) 1), .int .i64 (numV (pS7 l) 1), .int .i64 (numV (pS8 l) 2), .int .i64 (numV (pS9 l) 2), .int .i64 (numV (pS10 l) 2), .int .i64 (numV (pS11 l) 4), .int .i64 (numV (pS12 l) 4), .int .i64 (numV (pS13 l) 4), .int .i64 (numV (pS14 l) 4), .int .i64 (numV (pS15 l) 4), .int .i64 0, .int .i64 0, .int .i64 0] := so1
  clear so1
  replace D := D.up so2 (by omega)
  replace hS0 := hS0.grown so2 fun b q => ⟨by omega, by simp; omega⟩
  replace hUw0 := Nat.le_trans hUw0 so2.size
  replace hS1 := hS1.grown so2 fun b q => ⟨by omega, by simp; omega⟩
  replace hUw1 := Nat.le_trans hUw1 so2.size
  replace hS2 := hS2.grown so2 fun b q => ⟨by omega, by simp; omega⟩
  replace hUw2 := Nat.le_trans hUw2 so2.size
  clear so2
  try clear b1 b2
  have b1 := numV_lo (pS16 l) 4
  have b2 := numV_4 (pS16 l) 4 (by omega)
  go_wp2_with fail
  refine (refU32P m72 lo gs _ D.hs).mono ?_
  rintro e m73 ⟨rfl, hs, hg⟩
  replace hs : Ref m73 lo gs (pS17 l) := hs
  replace D := D.src hs hg
  clear hs
  replace hc := hc.grown hg (by have := D.ne; simp; omega)
  replace hS0 := hS0.grown hg fun b q => ⟨by omega, by simp; omega⟩
  replace hUw0 := Nat.le_trans hUw0 hg.size
  replace hS1 := hS1.grown hg fun b q => ⟨by omega, by simp; omega⟩
  replace hUw1 := Nat.le_trans hUw1 hg.size
  replace hS2 := hS2.grown hg fun b q => ⟨by omega, by simp; omega⟩
  replace hUw2 := Nat.le_trans hUw2 hg.size
  clear hg
  have z0 := hc.cellv 16 (v := .int .i64 0) rfl
  have f0 := hc.frozen 16
  have l0 := hc.lt
  obtain ⟨so1, so2⟩ := blk_store hc 16 (.int .i64 (numV (pS16 l) 4))
  go_upto_region 47 with (fail)
  clear f0 l0 z0
  generalize m73.setCell ⟨a5, 16, none⟩ (.int .i64 (numV (pS16 l) 4)) = m74 at *
  replace hc : Blk m74 a5 41 #[.int .i64 (numV (pS0 l) 2), .int .u32 (numV (pS1 l) 4), .int .u32 (numV (pS2 l) 4), .slice A0 n0 k0, .slice A1 n1 k1, .slice A2 n2 k2, .int .i64 (numV (pS6 l) 1), .int .i64 (numV (pS7 l) 1), .int .i64 (numV (pS8 l) 2), .int .i64 (numV (pS9 l) 2), .int .i64 (numV (pS10 l) 2), .int .i64 (numV (pS11 l) 4), .int .i64 (numV (pS12 l) 4), .int .i64 (numV (pS13 l) 4), .int .i64 (numV (pS14 l) 4), .int .i64 (numV (pS15 l) 4), .int .i64 (numV (pS16 l) 4), .int .i64 0, .int .i64 0] := so1
  clear so1
  replace D := D.up so2 (by omega)
  replace hS0 := hS0.grown so2 fun b q => ⟨by omega, by simp; omega⟩
  replace hUw0 := Nat.le_trans hUw0 so2.size
  replace hS1 := hS1.grown so2 fun b q => ⟨by omega, by simp; omega⟩
  replace hUw1 := Nat.le_trans hUw1 so2.size
  replace hS2 := hS2.grown so2 fun b q => ⟨by omega, by simp; omega⟩
  replace hUw2 := Nat.le_trans hUw2 so2.size
  clear so2
  try clear b1 b2
  go_wp2_with fail
  refine (refU16P m74 lo gs _ D.hs).mono ?_
  rintro e m75 ⟨rfl, hs, hg⟩
  replace hs : Ref m75 lo gs (pS18 l) := hs
  replace D := D.src hs hg
  clear hs
  replace hc := hc.grown hg (by have := D.ne; simp; omega)
  replace hS0 := hS0.grown hg fun b q => ⟨by omega, by simp; omega⟩
  replace hUw0 := Nat.le_trans hUw0 hg.size
  replace hS1 := hS1.grown hg fun b q => ⟨by omega, by simp; omega⟩
  replace hUw1 := Nat.le_trans hUw1 hg.size
  replace hS2 := hS2.grown hg fun b q => ⟨by omega, by simp; omega⟩
  replace hUw2 := Nat.le_trans hUw2 hg.size
  clear hg
  have z0 := hc.cellv 17 (v := .int .i64 0) rfl
  have f0 := hc.frozen 17
  have l0 := hc.lt
  obtain ⟨so1, so2⟩ := blk_store hc 17 (.int .i64 (numV (pS17 l) 2))
  go_upto_region 48 with (fail)
  clear f0 l0 z0
  generalize m75.setCell ⟨a5, 17, none⟩ (.int .i64 (numV (pS17 l) 2)) = m76 at *
  replace hc : Blk m76 a5 41 #[.int .i64 (numV (pS0 l) 2), .int .u32 (numV (pS1 l) 4), .int .u32 (numV (pS2 l) 4), .slice A0 n0 k0, .slice A1 n1 k1, .slice A2 n2 k2, .int .i64 (numV (pS6 l) 1), .int .i64 (numV (pS7 l) 1), .int .i64 (numV (pS8 l) 2), .int .i64 (numV (pS9 l) 2), .int .i64 (numV (pS10 l) 2), .int .i64 (numV (pS11 l) 4), .int .i64 (numV (pS12 l) 4), .int .i64 (numV (pS13 l) 4), .int .i64 (numV (pS14 l) 4), .int .i64 (numV (pS15 l) 4), .int .i64 (numV (pS16 l) 4), .int .i64 (numV (pS17 l) 2), .int .i64 0] := so1
  clear so1
  replace D := D.up so2 (by omega)
  replace hS0 := hS0.grown so2 fun b q => ⟨by omega, by simp; omega⟩
  replace hUw0 := Nat.le_trans hUw0 so2.size
  replace hS1 := hS1.grown so2 fun b q => ⟨by omega, by simp; omega⟩
  replace hUw1 := Nat.le_trans hUw1 so2.size
  replace hS2 := hS2.grown so2 fun b q => ⟨by omega, by simp; omega⟩
  replace hUw2 := Nat.le_trans hUw2 so2.size
  clear so2
  try clear b1 b2
  have b1 := numV_lo (pS18 l) 4
  have b2 := numV_4 (pS18 l) 4 (by omega)
  go_wp2_with fail
  refine (refU32P m76 lo gs _ D.hs).mono ?_
  rintro e m77 ⟨rfl, hs, hg⟩
  replace hs : Ref m77 lo gs (pS19 l) := hs
  replace D := D.src hs hg
  clear hs
  replace hc := hc.grown hg (by have := D.ne; simp; omega)
  replace hS0 := hS0.grown hg fun b q => ⟨by omega, by simp; omega⟩
  replace hUw0 := Nat.le_trans hUw0 hg.size
  replace hS1 := hS1.grown hg fun b q => ⟨by omega, by simp; omega⟩
  replace hUw1 := Nat.le_trans hUw1 hg.size
  replace hS2 := hS2.grown hg fun b q => ⟨by omega, by simp; omega⟩
  replace hUw2 := Nat.le_trans hUw2 hg.size
  clear hg
  have z0 := hc.cellv 18 (v := .int .i64 0) rfl
  have f0 := hc.frozen 18
  have l0 := hc.lt
  obtain ⟨so1, so2⟩ := blk_store hc 18 (.int .i64 (numV (pS18 l) 4))
  go_upto_region 49 with (fail)
  clear f0 l0 z0
  generalize m77.setCell ⟨a5, 18, none⟩ (.int .i64 (numV (pS18 l) 4)) = m78 at *
  replace hc : Blk m78 a5 41 #[.int .i64 (numV (pS0 l) 2), .int .u32 (numV (pS1 l) 4), .int .u32 (numV (pS2 l) 4), .slice A0 n0 k0, .slice A1 n1 k1, .slice A2 n2 k2, .int .i64 (numV (pS6 l) 1), .int .i64 (numV (pS7 l) 1), .int .i64 (numV (pS8 l) 2), .int .i64 (numV (pS9 l) 2), .int .i64 (numV (pS10 l) 2), .int .i64 (numV (pS11 l) 4), .int .i64 (numV (pS12 l) 4), .int .i64 (numV (pS13 l) 4), .int .i64 (numV (pS14 l) 4), .int .i64 (numV (pS15 l) 4), .int .i64 (numV (pS16 l) 4), .int .i64 (numV (pS17 l) 2), .int .i64 (numV (pS18 l) 4)] := so1
  clear so1
  replace D := D.up so2 (by omega)
  replace hS0 := hS0.grown so2 fun b q => ⟨by omega, by simp; omega⟩
  replace hUw0 := Nat.le_trans hUw0 so2.size
  replace hS1 := hS1.grown so2 fun b q => ⟨by omega, by simp; omega⟩
  replace hUw1 := Nat.le_trans hUw1 so2.size
  replace hS2 := hS2.grown so2 fun b q => ⟨by omega, by simp; omega⟩
  replace hUw2 := Nat.le_trans hUw2 so2.size
  clear so2
  try clear b1 b2
  have hzw : ∀ b, b < U0 ∨ b < U1 ∨ b < U2 → b < m78.heap.size := fun b q => by omega
  obtain ⟨c9, hc9⟩ : ∃ c9 : CfgV, c9 = ⟨numV (pS0 l) 2, numV (pS1 l) 4, numV (pS2 l) 4, A0, n0, k0, L0, A1, n1, k1, L1, A2, n2, k2, L2, numV (pS6 l) 1, numV (pS7 l) 1, numV (pS8 l) 2, numV (pS9 l) 2, numV (pS10 l) 2, numV (pS11 l) 4, numV (pS12 l) 4, numV (pS13 l) 4, numV (pS14 l) 4, numV (pS15 l) 4, numV (pS16 l) 4, numV (pS17 l) 2, numV (pS18 l) 4⟩ := ⟨_, rfl⟩
  obtain ⟨hC9, hsm9, hw9⟩ := parsed_in m78 l A0 A1 A2 n0 k0 n1 k1 n2 k2 L0 L1 L2 hL0.out hL1.out hL2.out hn0.out hn1.out hn2.out hc0 hm0 hc1 hm1 hc2 hm2 (hS0.more fun b q => hzw b (.inl q.2)) (hS1.more fun b q => hzw b (.inr (.inl q.2))) (hS2.more fun b q => hzw b (.inr (.inr q.2))) c9 hc9
  rw [show (#[.int .i64 (numV (pS0 l) 2), .int .u32 (numV (pS1 l) 4), .int .u32 (numV (pS2 l) 4), .slice A0 n0 k0, .slice A1 n1 k1, .slice A2 n2 k2, .int .i64 (numV (pS6 l) 1), .int .i64 (numV (pS7 l) 1), .int .i64 (numV (pS8 l) 2), .int .i64 (numV (pS9 l) 2), .int .i64 (numV (pS10 l) 2), .int .i64 (numV (pS11 l) 4), .int .i64 (numV (pS12 l) 4), .int .i64 (numV (pS13 l) 4), .int .i64 (numV (pS14 l) 4), .int .i64 (numV (pS15 l) 4), .int .i64 (numV (pS16 l) 4), .int .i64 (numV (pS17 l) 2), .int .i64 (numV (pS18 l) 4)] : Array Value) = cfgC c9 by rw [hc9]; exact cfgC_mk.symm] at hc
  have hwB : w.heap.size < B0 ∧ w.heap.size < B1 ∧ w.heap.size < B3 := by have := D.ne; omega
  have hT0 : Seen peerK m78 (fun b => w.heap.size < b ∧ b < m78.heap.size) c9.pA c9.pn c9.P := by rw [hc9]; exact hS0.more fun b q => ⟨Nat.lt_of_lt_of_le hwB.1 q.1, hzw b (.inl q.2)⟩
  have hT1 : Seen vipK m78 (fun b => w.heap.size < b ∧ b < m78.heap.size) c9.vA c9.vn c9.V := by rw [hc9]; exact hS1.more fun b q => ⟨Nat.lt_of_lt_of_le hwB.2.1 q.1, hzw b (.inr (.inl q.2))⟩
  have hT2 : Seen siteK m78 (fun b => w.heap.size < b ∧ b < m78.heap.size) c9.sA c9.sn c9.S := by rw [hc9]; exact hS2.more fun b q => ⟨Nat.lt_of_lt_of_le hwB.2.2 q.1, hzw b (.inr (.inr q.2))⟩
  clear hwB hS0 hS1 hS2 hL0 hL1 hL2 hn0 hn1 hn2 hc0 hc1 hc2 hm0 hm1 hm2 hc9 hzw hUw0 hUw1 hUw2
  replace hw9 := Lib.hid hw9
  generalize numV (pS6 l) 1 = t6
  generalize numV (pS7 l) 1 = t7
  generalize numV (pS8 l) 2 = t8
  generalize numV (pS9 l) 2 = t9
  generalize numV (pS10 l) 2 = t10
  generalize numV (pS11 l) 4 = t11
  generalize numV (pS12 l) 4 = t12
  generalize numV (pS13 l) 4 = t13
  generalize numV (pS14 l) 4 = t14
  generalize numV (pS15 l) 4 = t15
  generalize numV (pS16 l) 4 = t16
  generalize numV (pS17 l) 2 = t17
  generalize numV (pS18 l) 4 = t18
  have hi9 : (Tryz.prog.info? 41).map (·.size) = some (cfgC c9).size := by kernel_rfl
  have hiz : (Tryz.prog.info? 41).map (·.size) = some (19 : Nat) := by kernel_rfl
  have hbz : ∀ w : World, (Instr.build 41 #[]).run Tryz.prog w = .ok (.agg #[.int .i64 0, .int .u32 0, .int .u32 0, .slice none 0 0, .slice none 0 0, .slice none 0 0, .int .i64 0, .int .i64 0, .int .i64 0, .int .i64 0, .int .i64 0, .int .i64 0, .int .i64 0, .int .i64 0, .int .i64 0, .int .i64 0, .int .i64 0, .int .i64 0, .int .i64 0]) w := fun w => by kernel_rfl
  have hby0 : ∀ wq, Lat m78 wq → Byt wq B A n l := fun wq hSw => D.h.keep fun p hp => hSw.cell (by have := D.ne; have := D.hB.size; omega)
  have hEnd : ∀ wq, Lat m78 wq → Ref wq lo gs (pS19 l) := fun wq hSw => D.hs.below hSw D.lt
  replace hby0 := Lib.hid hby0
  replace hEnd := Lib.hid hEnd
  obtain ⟨E, hEe⟩ : ∃ E, endV (pS19 l) = E := ⟨_, rfl⟩
  have hEnd2 : ∀ wq, Lat m78 wq → Calls Tryz.prog 35 #[.pointer (some ⟨gs, 0, none⟩)] wq fun e w' => e = .returned (.int .i64 E) ∧ Lat wq w' := fun wq hSw => (refEnd_any wq lo gs (pS19 l) (hEnd.out wq hSw)).mono fun e w' hh => by
    obtain ⟨kk, h1, h2⟩ := hh
    rw [hEe] at h1
    exact ⟨h1, by rw [h2]; exact below_drewN (Below.refl _ _) kk⟩
  replace hEnd2 := Lib.hid hEnd2
  by_cases h1 : E = 0
  case neg =>
    have d1 : (E != 0) = true := by simpa using h1
    have hno := Lib.hid (goodP_end (by rw [hEe]; exact h1))
    replace hEe := Lib.hid hEe
    replace h1 := Lib.hid h1
    -- region 49: 0 1C 2 3 4 5C 6 7 8 9 10
    try refine wp_region_noPanic ?_
    refine wp_region_lat (by kernel_rfl) ?_
    (refine lat_now 0 (by rfl) ?_ (by kernel_rfl) (fun _ _ _ h => h) ?_ ?_; rotate_left; (focus (intro wq hSw; have hrd : ∀ b o, b < m78.heap.size → wq.cell? ⟨b, o, none⟩ = m78.cell? ⟨b, o, none⟩ := (fun b o h => Below.cell hSw (p := ⟨b, o, none⟩) h); go_simp; try with_reducible rfl; done)); try simp only [Act.put, List.setIfInBounds_toArray, List.set_cons_zero, List.set_cons_succ])
    (refine lat_late 1 (by rfl) (.int .i64 E) (by kernel_rfl) (fun _ _ _ h => h) (fun wq hSw => ⟨_, _, ?_, hEnd2.out wq hSw⟩) ?_; focus (go_simp; try with_reducible rfl; done); try simp only [Act.put, List.setIfInBounds_toArray, List.set_cons_zero, List.set_cons_succ])
    (refine lat_now 2 (by rfl) ?_ (by kernel_rfl) (fun _ _ _ h => h) ?_ ?_; rotate_left; (focus (intro wq hSw; have hrd : ∀ b o, b < m78.heap.size → wq.cell? ⟨b, o, none⟩ = m78.cell? ⟨b, o, none⟩ := (fun b o h => Below.cell hSw (p := ⟨b, o, none⟩) h); go_simp; try with_reducible rfl; done)); try simp only [Act.put, List.setIfInBounds_toArray, List.set_cons_zero, List.set_cons_succ])
    (refine lat_now 3 (by rfl) ?_ (by kernel_rfl) (fun _ _ _ h => h) ?_ ?_; rotate_left; (focus (intro wq hSw; have hrd : ∀ b o, b < m78.heap.size → wq.cell? ⟨b, o, none⟩ = m78.cell? ⟨b, o, none⟩ := (fun b o h => Below.cell hSw (p := ⟨b, o, none⟩) h); go_simp; try with_reducible rfl; done)); try simp only [Act.put, List.setIfInBounds_toArray, List.set_cons_zero, List.set_cons_succ])
    (refine lat_skip 4 (by rfl) (by kernel_rfl) (fun _ _ _ h => h) ?_; try simp only [Act.put, List.setIfInBounds_toArray, List.set_cons_zero, List.set_cons_succ])
    (refine lat_skip 5 (by rfl) (by kernel_rfl) (fun _ _ _ h => h) ?_; try simp only [Act.put, List.setIfInBounds_toArray, List.set_cons_zero, List.set_cons_succ])
    (refine lat_skip 6 (by rfl) (by kernel_rfl) (fun _ _ _ h => h) ?_; try simp only [Act.put, List.setIfInBounds_toArray, List.set_cons_zero, List.set_cons_succ])
    (refine lat_skip 7 (by rfl) (by kernel_rfl) (fun _ _ _ h => h) ?_; try simp only [Act.put, List.setIfInBounds_toArray, List.set_cons_zero, List.set_cons_succ])
    (refine lat_skip 8 (by rfl) (by kernel_rfl) (fun _ _ _ h => h) ?_; try simp only [Act.put, List.setIfInBounds_toArray, List.set_cons_zero, List.set_cons_succ])
    (refine lat_skip 9 (by rfl) (by kernel_rfl) (fun _ _ _ h => h) ?_; try simp only [Act.put, List.setIfInBounds_toArray, List.set_cons_zero, List.set_cons_succ])
    (refine lat_now 10 (by rfl) ?_ (by kernel_rfl) (fun _ _ _ h => h) ?_ ?_; rotate_left; (focus (intro wq hSw; have hrd : ∀ b o, b < m78.heap.size → wq.cell? ⟨b, o, none⟩ = m78.cell? ⟨b, o, none⟩ := (fun b o h => Below.cell hSw (p := ⟨b, o, none⟩) h); go_simp; try with_reducible rfl; done)); try simp only [Act.put, List.setIfInBounds_toArray, List.set_cons_zero, List.set_cons_succ])
    refine lat_done (by kernel_rfl) (fun wz hz => ?_) _
    try refine NoPanic.normal ?_
    replace D := D.below hz
    clear hc hC9 hT0 hT1 hT2
    go_upto_region 50 with (fail)
    go_step
    refine wpList_zero rfl 41 rfl hbz ?_
    simp only [Act.put, List.setIfInBounds_toArray, List.set_cons_zero, List.set_cons_succ]
    refine wpList_store_blk rfl D.h2 41 (.tmp 2) (.tmp 211) rfl rfl rfl rfl hiz (by simp [Value.oneCell']) ?_
    intro w11 h11 hg11
    simp only [Act.put]
    refine wpList_asg 3 (by rfl) rfl (.int .i64 4) rfl ?_
    simp only [Act.put, List.setIfInBounds_toArray, List.set_cons_zero, List.set_cons_succ]
    apply wpList_nil
    repeat go_step
    refine bodyPost_ret (results_ct rfl _ rfl (load_blk h11 Tryz.underlying41 rfl hiz)) rfl ?_
    refine ⟨zeroC, ?_, zeroC_in _, zeroC_sm, ?_, below_own D.hB hg11 D.hB.size (Nat.le_refl _)⟩
    · rw [hP.out.2, (parsed_no hno.out).2]
      rfl
    · rw [hP.out.1, (parsed_no hno.out).1]
      rfl
  case pos =>
  subst h1
  replace hEe := Lib.hid hEe
  obtain ⟨x, hx⟩ : ∃ x, (outY c9 == l) = x := ⟨_, rfl⟩
  have hsx : ((strB (outY c9)).toList == (strB l).toList) = x := by rw [strB_list, strB_list]; exact hx
  have hx2 := Lib.hid hx
  clear hx
  -- region 49: 0 1C 2 3 4 5C 6 7 8 9 10
  try refine wp_region_noPanic ?_
  refine wp_region_lat (by kernel_rfl) ?_
  (refine lat_now 0 (by rfl) ?_ (by kernel_rfl) (fun _ _ _ h => h) ?_ ?_; rotate_left; (focus (intro wq hSw; have hrd : ∀ b o, b < m78.heap.size → wq.cell? ⟨b, o, none⟩ = m78.cell? ⟨b, o, none⟩ := (fun b o h => Below.cell hSw (p := ⟨b, o, none⟩) h); go_simp; try with_reducible rfl; done)); try simp only [Act.put, List.setIfInBounds_toArray, List.set_cons_zero, List.set_cons_succ])
  (refine lat_late 1 (by rfl) (.int .i64 0) (by kernel_rfl) (fun _ _ _ h => h) (fun wq hSw => ⟨_, _, ?_, hEnd2.out wq hSw⟩) ?_; focus (go_simp; try with_reducible rfl; done); try simp only [Act.put, List.setIfInBounds_toArray, List.set_cons_zero, List.set_cons_succ])
  (refine lat_now 2 (by rfl) ?_ (by kernel_rfl) (fun _ _ _ h => h) ?_ ?_; rotate_left; (focus (intro wq hSw; have hrd : ∀ b o, b < m78.heap.size → wq.cell? ⟨b, o, none⟩ = m78.cell? ⟨b, o, none⟩ := (fun b o h => Below.cell hSw (p := ⟨b, o, none⟩) h); go_simp; try with_reducible rfl; done)); try simp only [Act.put, List.setIfInBounds_toArray, List.set_cons_zero, List.set_cons_succ])
  (refine lat_now 3 (by rfl) ?_ (by kernel_rfl) (fun _ _ _ h => h) ?_ ?_; rotate_left; (focus (intro wq hSw; have hrd : ∀ b o, b < m78.heap.size → wq.cell? ⟨b, o, none⟩ = m78.cell? ⟨b, o, none⟩ := (fun b o h => Below.cell hSw (p := ⟨b, o, none⟩) h); go_simp; try with_reducible rfl; done)); try simp only [Act.put, List.setIfInBounds_toArray, List.set_cons_zero, List.set_cons_succ])
  (refine lat_now 4 (by rfl) ?_ (by kernel_rfl) (fun _ _ _ h => h) ?_ ?_; rotate_left; (focus (intro wq hSw; refine exec_load_blk (x := .tmp 5) ?_ ?_ (hc.below hSw hc.lt) _ Tryz.underlying41 rfl (by kernel_rfl) <;> rfl)); simp only [Act.put, List.setIfInBounds_toArray, List.set_cons_zero, List.set_cons_succ])
  (refine lat_now 7 (by rfl) ?_ (by kernel_rfl) (fun _ _ _ h => h) ?_ ?_; rotate_left; (focus (intro wq hSw; have hrd : ∀ b o, b < m78.heap.size → wq.cell? ⟨b, o, none⟩ = m78.cell? ⟨b, o, none⟩ := (fun b o h => Below.cell hSw (p := ⟨b, o, none⟩) h); go_simp; try with_reducible rfl; done)); try simp only [Act.put, List.setIfInBounds_toArray, List.set_cons_zero, List.set_cons_succ])
  (refine lat_now 8 (by rfl) ?_ (by kernel_rfl) (fun _ _ _ h => h) ?_ ?_; rotate_left; (focus (intro wq hSw; have q := run_str wq (hby0.out wq hSw) c; go_simp; try with_reducible rfl; done)); simp only [Act.put, List.setIfInBounds_toArray, List.set_cons_zero, List.set_cons_succ])
  refine lat_call 5 (by rfl) (by kernel_rfl) (by rfl) (fun wx hx KQ hKQ => ?_)
  go_simp
  replace hc := hc.below hx hc.lt
  replace hC9 := hC9.nx hx
  replace D := D.below hx
  replace hT0 := seen_new hT0 hx
  replace hT1 := seen_new hT1 hx
  replace hT2 := seen_new hT2 hx
  refine (refBytesC_any wx c9 hC9 hsm9).mono ?_
  rintro e w10 ⟨v, rfl, hob, hb⟩
  obtain ⟨A9, k9, rfl, -, -, hby, -⟩ := hob.any2
  replace hC9 := hC9.nx hb
  replace D := D.below hb
  replace hT0 := seen_new hT0 hb
  replace hT1 := seen_new hT1 hb
  replace hT2 := seen_new hT2 hb
  refine hKQ.out _ _ hb ?_
  clear hKQ KQ
  replace hc := hc.below hb hc.lt
  try simp only [Act.put, List.setIfInBounds_toArray, List.set_cons_zero, List.set_cons_succ]
  (refine lat_now 6 (by rfl) ?_ (by kernel_rfl) (fun _ _ _ h => h) ?_ ?_; rotate_left; (focus (intro wq hSw; have q := run_str wq (hby.below hSw) k9; go_simp; try with_reducible rfl; done)); simp only [Act.put, List.setIfInBounds_toArray, List.set_cons_zero, List.set_cons_succ])
  (refine lat_now 9 (by rfl) ?_ (by kernel_rfl) (fun _ _ _ h => h) ?_ ?_; rotate_left; (focus (intro wq hSw; have hrd : ∀ b o, b < w10.heap.size → wq.cell? ⟨b, o, none⟩ = w10.cell? ⟨b, o, none⟩ := (fun b o h => Below.cell hSw (p := ⟨b, o, none⟩) h); go_simp; try with_reducible rfl; done)); try simp only [Act.put, List.setIfInBounds_toArray, List.set_cons_zero, List.set_cons_succ])
  (refine lat_now 10 (by rfl) ?_ (by kernel_rfl) (fun _ _ _ h => h) ?_ ?_; rotate_left; (focus (intro wq hSw; have hrd : ∀ b o, b < w10.heap.size → wq.cell? ⟨b, o, none⟩ = w10.cell? ⟨b, o, none⟩ := (fun b o h => Below.cell hSw (p := ⟨b, o, none⟩) h); go_simp; try with_reducible rfl; done)); try simp only [Act.put, List.setIfInBounds_toArray, List.set_cons_zero, List.set_cons_succ])
  refine lat_done (by kernel_rfl) (fun wz hz => ?_) _
  try refine NoPanic.normal ?_
  replace D := D.below hz
  replace hC9 := hC9.nx hz
  replace hc := hc.below hz hc.lt
  replace hT0 := seen_new hT0 hz
  replace hT1 := seen_new hT1 hz
  replace hT2 := seen_new hT2 hz
  clear hby hsx hz hb hx
  cases x
  case false =>
    have hno := Lib.hid (goodP_no hw9.out (by simpa using hx2.out))
    clear hc hC9 hT0 hT1 hT2
    go_upto_region 50 with (fail)
    go_step
    refine wpList_zero rfl 41 rfl hbz ?_
    simp only [Act.put, List.setIfInBounds_toArray, List.set_cons_zero, List.set_cons_succ]
    refine wpList_store_blk rfl D.h2 41 (.tmp 2) (.tmp 211) rfl rfl rfl rfl hiz (by simp [Value.oneCell']) ?_
    intro w11 h11 hg11
    simp only [Act.put]
    refine wpList_asg 3 (by rfl) rfl (.int .i64 4) rfl ?_
    simp only [Act.put, List.setIfInBounds_toArray, List.set_cons_zero, List.set_cons_succ]
    apply wpList_nil
    repeat go_step
    refine bodyPost_ret (results_ct rfl _ rfl (load_blk h11 Tryz.underlying41 rfl hiz)) rfl ?_
    refine ⟨zeroC, ?_, zeroC_in _, zeroC_sm, ?_, below_own D.hB hg11 D.hB.size (Nat.le_refl _)⟩
    · rw [hP.out.2, (parsed_no hno.out).2]
      rfl
    · rw [hP.out.1, (parsed_no hno.out).1]
      rfl
  case true =>
    have hy := Lib.hid (parsed_yes hw9.out hEe.out (by simpa using hx2.out))
    go_upto_region 51 with (fail)
    go_step
    refine wpList_load_blk rfl hc 41 (.tmp 5) rfl rfl Tryz.underlying41 rfl hi9 ?_
    simp only [Act.put, List.setIfInBounds_toArray, List.set_cons_zero, List.set_cons_succ]
    refine wpList_store_blk rfl D.h2 41 (.tmp 2) (.tmp 212) rfl rfl rfl rfl hi9 (by simp [cfgC, Value.oneCell']) ?_
    intro w11 h11 hg11
    simp only [Act.put]
    refine wpList_asg 3 (by rfl) rfl (.int .i64 0) rfl ?_
    simp only [Act.put, List.setIfInBounds_toArray, List.set_cons_zero, List.set_cons_succ]
    apply wpList_nil
    repeat go_step
    refine bodyPost_ret (results_ct rfl _ rfl (load_blk h11 Tryz.underlying41 rfl hi9)) rfl ?_
    have hC11 : CfgIn w11 c9 := ⟨hC9.id_, hC9.own_, hC9.nums, hC9.damp, hC9.lens, seen_apart hT0 hg11, seen_apart hT1 hg11, seen_apart hT2 hg11⟩
    refine ⟨c9, ?_, hC11, hsm9, hy.out.1.trans hP.out.1.symm, below_own D.hB hg11 D.hB.size (Nat.le_refl _)⟩
    rw [hP.out.2, hy.out.2]
    rfl
theorem refParseC_any (w : World) (A : Option Addr) (n c : Nat) (l : List UInt8) (B : Nat) (h : Byt w B A n l) (hBw : B ≤ w.heap.size) (hn : n ≤ 5000) : Calls Tryz.prog 7 #[.slice A n c] w fun e w' => ∃ c : CfgV, e = .returned (.tuple #[.agg (cfgC c), .int .i64 (parseE l)]) ∧ CfgIn w' c ∧ CfgSm c ∧ c.w = parseW l ∧ Below w.heap.size w w' :=
  refParse_core w A n c l B h hBw hn _ _ ⟨rfl, rfl⟩
end Go.Proofs.YtecmhakapomepaaGreat
