import Derived.Test.YtecmhakapomepaaGreatMConfigForms27
import Derived.Deep.DeepCutAuto
/- config: the reader of a vip; as many vips as a byte says. -/
namespace Go.Proofs.YtecmhakapomepaaGreat
set_option linter.unusedVariables false
open Go Go.RowKit

/-- the vip's own variable is made. -/
def LeftV (w : World) (s : St) (gs g4 g5 g6 g7 g8 a3 : Nat) (s4 : Value) (wx : World) : Prop :=
  ∃ a4, s4 = .pointer (some ⟨a4, 0, none⟩) ∧ gs < a4 ∧ Blk wx a4 53 #[.int .u32 (numV s 4), .int .i64 (numV (nx s 4) 1), .slice none 0 0] ∧ a3 ≠ a4 ∧ w.heap.size ≤ a4 ∧ Src wx gs (nx (nx s 4) 1) ∧ PEnv wx gs g4 g5 g6 g7 g8 ∧ Blk wx a3 53 #[.int .u32 0, .int .i64 0, .slice none 0 0] ∧ w.grownBy wx (some gs)
theorem PEnv.grownX {w w' : World} {gs g4 g5 g6 g7 g8 k : Nat} (h : PEnv w gs g4 g5 g6 g7 g8) (hg : w.grownBy w' (some k)) (h4 : g4 < k) (h5 : g5 < k) (h6 : g6 < k) (h7 : g7 < k) (h8 : g8 < k) : PEnv w' gs g4 g5 g6 g7 g8 := by
  obtain ⟨q1, q2, q3, q4, q5, n⟩ := h
  exact ⟨q1.grown hg (by simp; omega), q2.grown hg (by simp; omega), q3.grown hg (by simp; omega), q4.grown hg (by simp; omega), q5.grown hg (by simp; omega), n⟩
theorem grown_up {w w1 w2 : World} {row : Option Nat} {k : Nat} (h : w.grownBy w1 row) (hb : w1.grownBy w2 (some k)) (hk : w.heap.size ≤ k) : w.grownBy w2 row :=
  ⟨hb.os.trans h.os, hb.tape.trans h.tape, hb.output.trans h.output, Nat.le_trans h.size hb.size, fun b h1 h2 => (hb.block b (Nat.lt_of_lt_of_le h1 h.size) (by simp; omega)).trans (h.block b h1 h2)⟩
set_option maxRecDepth 100000 in
set_option maxHeartbeats 8000000 in
theorem vip1_any (w : World) (gs g4 g5 g6 g7 g8 : Nat) (s : St) (hE : PEnv w gs g4 g5 g6 g7 g8) (hs : Src w gs s) : Calls Tryz.prog 24 #[.pointer (some ⟨g7, 0, none⟩), .pointer (some ⟨g5, 0, none⟩), .pointer (some ⟨g4, 0, none⟩)] w fun e w' => ∃ v : VipV, e = .returned (.agg (vipC v).toArray) ∧ v.w = (vipP s).1 ∧ vipK.ok w' (fun b => w.heap.size ≤ b ∧ b < w'.heap.size) v ∧ Src w' gs (vipP s).2 ∧ w.grownBy w' (some gs) := by
  have hb0 := (Below.refl w.heap.size w).alloc (Nat.le_refl _) (.cells #[.int .u32 0, .int .i64 0, .slice none 0 0] 53)
  have e4 : g4 < w.heap.size := hE.s4.lt
  have e5 : g5 < w.heap.size := hE.n8.lt
  have e6 : g6 < w.heap.size := hE.n16.lt
  have e7 : g7 < w.heap.size := hE.ad.lt
  have e8 : g8 < w.heap.size := hE.n32.lt
  have h3 := Blk.new w 53 #[.int .u32 0, .int .i64 0, .slice none 0 0]
  have hx3 : gs < w.heap.size := hs.lt
  replace hE := hE.alloc (.cells #[.int .u32 0, .int .i64 0, .slice none 0 0] 53)
  replace hs := hs.alloc (.cells #[.int .u32 0, .int .i64 0, .slice none 0 0] 53)
  go_enter Tryz.func24, Tryz.ntmps24
  go_upto_region 1 with (fail)
  generalize w.alloc (.cells #[.int .u32 0, .int .i64 0, .slice none 0 0] 53) = w1 at *
  have c_ad := hE.ad.cellv 0 (v := .func (.func 19) #[.pointer (some ⟨gs, 0, none⟩)] #[]) rfl
  have l_ad := hE.ad.lt
  have k_ad : g7 ≠ gs := by have := hE.ne; omega
  have c_n8 := hE.n8.cellv 0 (v := .func (.func 17) #[.pointer (some ⟨gs, 0, none⟩)] #[]) rfl
  have l_n8 := hE.n8.lt
  have k_n8 : g5 ≠ gs := by have := hE.ne; omega
  have hG1 : w1.grownBy w1 (some gs) := grown_refl _ _
  replace hb0 := grown_of_below hb0 (Nat.le_refl _) (some gs)
  obtain ⟨a3, ha3⟩ : ∃ a, a = w.heap.size := ⟨_, rfl⟩
  rw [← ha3] at h3
  rw [← ha3]
  have hx4 : w.heap.size ≤ a3 := by omega
  have hx5 : gs < a3 := by omega
  replace ha3 := Lib.hid ha3
  go_cut [4] (fun s4 wx => LeftV w s gs g4 g5 g6 g7 g8 a3 s4 wx)
  case first =>
    -- region 1: 0 1C 2 3C 4 5M 6M
    try refine wp_region_noPanic ?_
    have hs1r : w1.grownBy w1.drew (some gs) := grown_drew (grown_refl _ _)
    refine wp_region_E 6 (S := fun w' => w1.grownBy w' (some gs)) (by kernel_rfl) hs1r (fun _ => ?_)
    (refine e_takeA 0 (by rfl) ?_ (by kernel_rfl) (fun _ _ _ h => h) hs1r ?_ ?_; rotate_left; (focus (intro wq hSw; have hrd : ∀ b' o, b' < w1.heap.size → b' ≠ gs → wq.cell? ⟨b', o, none⟩ = w1.cell? ⟨b', o, none⟩ := (fun b' o h hne => grown_cell hSw h hne); go_simp; try with_reducible rfl; done)); try simp only [Act.put, List.setIfInBounds_toArray, List.set_cons_zero, List.set_cons_succ])
    (refine e_takeA 2 (by rfl) ?_ (by kernel_rfl) (fun _ _ _ h => h) hs1r ?_ ?_; rotate_left; (focus (intro wq hSw; have hrd : ∀ b' o, b' < w1.heap.size → b' ≠ gs → wq.cell? ⟨b', o, none⟩ = w1.cell? ⟨b', o, none⟩ := (fun b' o h hne => grown_cell hSw h hne); go_simp; try with_reducible rfl; done)); try simp only [Act.put, List.setIfInBounds_toArray, List.set_cons_zero, List.set_cons_succ])
    refine e_two 1 5 (by rfl) (by rfl) (by kernel_rfl) (by rfl) (by rfl) (fun KQ hKQ => ?_) (fun KQ hKQ => ?_)
    · skip
      go_simp
      refine (u32P w1.drew gs s hs.drew).mono ?_
      rintro e y2 ⟨rfl, hs, hg⟩
      replace hg : w1.grownBy y2 (some gs) := grown_trans (grown_drew (grown_refl _ _)) hg
      replace hE := hE.grown hg
      replace h3 := h3.grown hg (by simp; omega)
      replace hb0 := grown_trans hb0 hg
      replace hG1 := grown_trans hG1 hg
      clear hg 
      have hs2r := hG1
      refine hKQ.out _ _ hs2r ?_
      clear hKQ KQ
      try simp only [Act.put, List.setIfInBounds_toArray, List.set_cons_zero, List.set_cons_succ]
      refine e_two 3 5 (by rfl) (by rfl) (by kernel_rfl) (by rfl) (by rfl) (fun KQ hKQ => ?_) (fun KQ hKQ => ?_)
      · skip
        go_simp
        refine (u8P y2 gs (nx s 4) hs).mono ?_
        rintro e y3 ⟨rfl, hs, hg⟩
        replace hE := hE.grown hg
        replace h3 := h3.grown hg (by simp; omega)
        replace hb0 := grown_trans hb0 hg
        replace hG1 := grown_trans hG1 hg
        clear hg 
        have hs3r := hG1
        refine hKQ.out _ _ hs3r ?_
        clear hKQ KQ
        try simp only [Act.put, List.setIfInBounds_toArray, List.set_cons_zero, List.set_cons_succ]
        (refine e_takeA 4 (by rfl) ?_ (by kernel_rfl) (fun _ _ _ h => h) hs3r ?_ ?_; rotate_left; (focus (intro wq hSw; have hrd : ∀ b' o, b' < w1.heap.size → b' ≠ gs → wq.cell? ⟨b', o, none⟩ = w1.cell? ⟨b', o, none⟩ := (fun b' o h hne => grown_cell hSw h hne); go_simp; try with_reducible rfl; done)); try simp only [Act.put, List.setIfInBounds_toArray, List.set_cons_zero, List.set_cons_succ])
        refine e_callA 5 (by rfl) (by kernel_rfl) (by rfl) (fun KQ hKQ => ?_)
        go_simp
        have hb := (Below.refl y3.heap.size y3).alloc (Nat.le_refl _) (.cells #[.int .u32 0, .int .i64 0, .slice none 0 0] 53)
        have hv : Blk (y3.alloc (.cells #[.int .u32 0, .int .i64 0, .slice none 0 0] 53)) y3.heap.size 53 #[.int .u32 0, .int .i64 0, .slice none 0 0] := Blk.new y3 53 #[.int .u32 0, .int .i64 0, .slice none 0 0]
        have hd9 : (y3.alloc (.cells #[.int .u32 0, .int .i64 0, .slice none 0 0] 53)).drew = y3.drew.alloc (.cells #[.int .u32 0, .int .i64 0, .slice none 0 0] 53) := rfl
        try rw [hd9]
        clear hd9
        have hg : y3.grownBy (y3.alloc (.cells #[.int .u32 0, .int .i64 0, .slice none 0 0] 53)) (some gs) := grown_of_below hb (Nat.le_refl _) _
        obtain ⟨a4, ha4⟩ : ∃ a, a = y3.heap.size := ⟨_, rfl⟩
        rw [← ha4] at hv
        try rw [← ha4]
        have hx6 : gs < a4 := by have := hs.lt; omega
        have hx7 : a3 ≠ a4 := by have := h3.lt; omega
        have hx8 : w.heap.size ≤ a4 := by have := hb0.size; omega
        replace ha4 := Lib.hid ha4
        generalize y3.alloc (.cells #[.int .u32 0, .int .i64 0, .slice none 0 0] 53) = y4 at *
        replace hs := hs.below (hb) hs.lt
        replace hE := hE.grown hg
        replace h3 := h3.grown hg (by simp; omega)
        replace hb0 := grown_trans hb0 hg
        replace hG1 := grown_trans hG1 hg
        clear hg hb
        have hs4r := hG1
        refine hKQ.out _ _ hs4r ?_
        clear hKQ KQ
        try simp only [Act.put, List.setIfInBounds_toArray, List.set_cons_zero, List.set_cons_succ]
        refine e_last (by rfl) (by kernel_rfl) (by rfl) (fun KQ hKQ => ?_)
        refine wp_store_blk hv 53 (.tmp 4) (.tmp 9) (by rfl) (by rfl) (by rfl) (by rfl) (by kernel_rfl) (by simp [Value.oneCell']) ?_
        intro w7 hv7 hg7
        have hs7 := hs.grown hg7 hx6
        replace h3 := h3.grown hg7 (by simp; omega)
        have hE7 := hE.grownX hg7 (by omega) (by omega) (by omega) (by omega) (by omega)
        replace hb0 := grown_up hb0 hg7 hx8
        refine hKQ.out _ _ ?_
        clear hKQ KQ
        try simp only [Act.put]
        refine e_done (by kernel_rfl) ?_ _
        try refine NoPanic.normal ?_
        go_wp2_with fail
        go_meet
        exact ⟨a4, rfl, hx6, hv7, hx7, hx8, hs7, hE7, h3, hb0⟩
      · skip
        go_simp
        have hb := (Below.refl y2.heap.size y2).alloc (Nat.le_refl _) (.cells #[.int .u32 0, .int .i64 0, .slice none 0 0] 53)
        have hv : Blk (y2.alloc (.cells #[.int .u32 0, .int .i64 0, .slice none 0 0] 53)) y2.heap.size 53 #[.int .u32 0, .int .i64 0, .slice none 0 0] := Blk.new y2 53 #[.int .u32 0, .int .i64 0, .slice none 0 0]
        have hd9 : (y2.alloc (.cells #[.int .u32 0, .int .i64 0, .slice none 0 0] 53)).drew = y2.drew.alloc (.cells #[.int .u32 0, .int .i64 0, .slice none 0 0] 53) := rfl
        try rw [hd9]
        clear hd9
        have hg : y2.grownBy (y2.alloc (.cells #[.int .u32 0, .int .i64 0, .slice none 0 0] 53)) (some gs) := grown_of_below hb (Nat.le_refl _) _
        obtain ⟨a4, ha4⟩ : ∃ a, a = y2.heap.size := ⟨_, rfl⟩
        rw [← ha4] at hv
        try rw [← ha4]
        have hx6 : gs < a4 := by have := hs.lt; omega
        have hx7 : a3 ≠ a4 := by have := h3.lt; omega
        have hx8 : w.heap.size ≤ a4 := by have := hb0.size; omega
        replace ha4 := Lib.hid ha4
        generalize y2.alloc (.cells #[.int .u32 0, .int .i64 0, .slice none 0 0] 53) = y5 at *
        replace hs := hs.below (hb) hs.lt
        replace hE := hE.grown hg
        replace h3 := h3.grown hg (by simp; omega)
        replace hb0 := grown_trans hb0 hg
        replace hG1 := grown_trans hG1 hg
        clear hg hb
        have hs5r := hG1
        refine hKQ.out _ _ hs5r ?_
        clear hKQ KQ
        try simp only [Act.put, List.setIfInBounds_toArray, List.set_cons_zero, List.set_cons_succ]
        refine e_callA 3 (by rfl) (by kernel_rfl) (by rfl) (fun KQ hKQ => ?_)
        go_simp
        refine (u8P y5 gs (nx s 4) hs).mono ?_
        rintro e y6 ⟨rfl, hs, hg⟩
        replace hv := hv.grown hg (by simp; omega)
        replace hE := hE.grown hg
        replace h3 := h3.grown hg (by simp; omega)
        replace hb0 := grown_trans hb0 hg
        replace hG1 := grown_trans hG1 hg
        clear hg 
        have hs6r := hG1
        refine hKQ.out _ _ hs6r ?_
        clear hKQ KQ
        try simp only [Act.put, List.setIfInBounds_toArray, List.set_cons_zero, List.set_cons_succ]
        (refine e_takeA 4 (by rfl) ?_ (by kernel_rfl) (fun _ _ _ h => h) hs6r ?_ ?_; rotate_left; (focus (intro wq hSw; have hrd : ∀ b' o, b' < w1.heap.size → b' ≠ gs → wq.cell? ⟨b', o, none⟩ = w1.cell? ⟨b', o, none⟩ := (fun b' o h hne => grown_cell hSw h hne); go_simp; try with_reducible rfl; done)); try simp only [Act.put, List.setIfInBounds_toArray, List.set_cons_zero, List.set_cons_succ])
        refine e_last (by rfl) (by kernel_rfl) (by rfl) (fun KQ hKQ => ?_)
        refine wp_store_blk hv 53 (.tmp 4) (.tmp 9) (by rfl) (by rfl) (by rfl) (by rfl) (by kernel_rfl) (by simp [Value.oneCell']) ?_
        intro w7 hv7 hg7
        have hs7 := hs.grown hg7 hx6
        replace h3 := h3.grown hg7 (by simp; omega)
        have hE7 := hE.grownX hg7 (by omega) (by omega) (by omega) (by omega) (by omega)
        replace hb0 := grown_up hb0 hg7 hx8
        refine hKQ.out _ _ ?_
        clear hKQ KQ
        try simp only [Act.put]
        refine e_done (by kernel_rfl) ?_ _
        try refine NoPanic.normal ?_
        go_wp2_with fail
        go_meet
        exact ⟨a4, rfl, hx6, hv7, hx7, hx8, hs7, hE7, h3, hb0⟩
    · skip
      go_simp
      have hb := (Below.refl w1.drew.heap.size w1.drew).alloc (Nat.le_refl _) (.cells #[.int .u32 0, .int .i64 0, .slice none 0 0] 53)
      have hv : Blk (w1.drew.alloc (.cells #[.int .u32 0, .int .i64 0, .slice none 0 0] 53)) w1.heap.size 53 #[.int .u32 0, .int .i64 0, .slice none 0 0] := Blk.new w1.drew 53 #[.int .u32 0, .int .i64 0, .slice none 0 0]
      have hd9 : (w1.alloc (.cells #[.int .u32 0, .int .i64 0, .slice none 0 0] 53)).drew = w1.drew.alloc (.cells #[.int .u32 0, .int .i64 0, .slice none 0 0] 53) := rfl
      try rw [hd9]
      clear hd9
      have hg : w1.drew.grownBy (w1.drew.alloc (.cells #[.int .u32 0, .int .i64 0, .slice none 0 0] 53)) (some gs) := grown_of_below hb (Nat.le_refl _) _
      obtain ⟨a4, ha4⟩ : ∃ a, a = w1.heap.size := ⟨_, rfl⟩
      rw [← ha4] at hv
      try rw [← ha4]
      have hx6 : gs < a4 := by have := hs.lt; omega
      have hx7 : a3 ≠ a4 := by have := h3.lt; omega
      have hx8 : w.heap.size ≤ a4 := by have := hb0.size; omega
      replace ha4 := Lib.hid ha4
      generalize w1.drew.alloc (.cells #[.int .u32 0, .int .i64 0, .slice none 0 0] 53) = y7 at *
      replace hs := hs.below ((Below.refl w1.heap.size w1).drew.trans hb) hs.lt
      replace hg : w1.grownBy y7 (some gs) := grown_trans (grown_drew (grown_refl _ _)) hg
      replace hE := hE.grown hg
      replace h3 := h3.grown hg (by simp; omega)
      replace hb0 := grown_trans hb0 hg
      replace hG1 := grown_trans hG1 hg
      clear hg hb
      have hs7r := hG1
      refine hKQ.out _ _ hs7r ?_
      clear hKQ KQ
      try simp only [Act.put, List.setIfInBounds_toArray, List.set_cons_zero, List.set_cons_succ]
      refine e_callA 1 (by rfl) (by kernel_rfl) (by rfl) (fun KQ hKQ => ?_)
      go_simp
      refine (u32P y7 gs s hs).mono ?_
      rintro e y8 ⟨rfl, hs, hg⟩
      replace hv := hv.grown hg (by simp; omega)
      replace hE := hE.grown hg
      replace h3 := h3.grown hg (by simp; omega)
      replace hb0 := grown_trans hb0 hg
      replace hG1 := grown_trans hG1 hg
      clear hg 
      have hs8r := hG1
      refine hKQ.out _ _ hs8r ?_
      clear hKQ KQ
      try simp only [Act.put, List.setIfInBounds_toArray, List.set_cons_zero, List.set_cons_succ]
      refine e_callA 3 (by rfl) (by kernel_rfl) (by rfl) (fun KQ hKQ => ?_)
      go_simp
      refine (u8P y8 gs (nx s 4) hs).mono ?_
      rintro e y9 ⟨rfl, hs, hg⟩
      replace hv := hv.grown hg (by simp; omega)
      replace hE := hE.grown hg
      replace h3 := h3.grown hg (by simp; omega)
      replace hb0 := grown_trans hb0 hg
      replace hG1 := grown_trans hG1 hg
      clear hg 
      have hs9r := hG1
      refine hKQ.out _ _ hs9r ?_
      clear hKQ KQ
      try simp only [Act.put, List.setIfInBounds_toArray, List.set_cons_zero, List.set_cons_succ]
      (refine e_takeA 4 (by rfl) ?_ (by kernel_rfl) (fun _ _ _ h => h) hs9r ?_ ?_; rotate_left; (focus (intro wq hSw; have hrd : ∀ b' o, b' < w1.heap.size → b' ≠ gs → wq.cell? ⟨b', o, none⟩ = w1.cell? ⟨b', o, none⟩ := (fun b' o h hne => grown_cell hSw h hne); go_simp; try with_reducible rfl; done)); try simp only [Act.put, List.setIfInBounds_toArray, List.set_cons_zero, List.set_cons_succ])
      refine e_last (by rfl) (by kernel_rfl) (by rfl) (fun KQ hKQ => ?_)
      refine wp_store_blk hv 53 (.tmp 4) (.tmp 9) (by rfl) (by rfl) (by rfl) (by rfl) (by kernel_rfl) (by simp [Value.oneCell']) ?_
      intro w7 hv7 hg7
      have hs7 := hs.grown hg7 hx6
      replace h3 := h3.grown hg7 (by simp; omega)
      have hE7 := hE.grownX hg7 (by omega) (by omega) (by omega) (by omega) (by omega)
      replace hb0 := grown_up hb0 hg7 hx8
      refine hKQ.out _ _ ?_
      clear hKQ KQ
      try simp only [Act.put]
      refine e_done (by kernel_rfl) ?_ _
      try refine NoPanic.normal ?_
      go_wp2_with fail
      go_meet
      exact ⟨a4, rfl, hx6, hv7, hx7, hx8, hs7, hE7, h3, hb0⟩
  case rest =>
    clear hE hs h3 hG1 hb0 c_ad l_ad c_n8 l_n8
    obtain ⟨a4, rfl, hx6, hv, hx7, hx8, hs, hE, h3, hg⟩ := hcut
    have s4 := hE.s4.cellv 0 (v := .pointer (some ⟨gs, 0, none⟩)) rfl
    have l4 := hE.s4.lt
    go_wp2_with fail
    refine (manyB_any wc gs g4 g5 g6 g7 g8 _ hE hs).mono ?_
    rintro e w2 ⟨v, rfl, hr, hs2, hg2⟩
    obtain ⟨st, hst⟩ : ∃ st, st = nx (nx s 4) 1 := ⟨_, rfl⟩
    have hpv : vipP s = (⟨numV s 4, numV (nx s 4) 1, (listP bndP st).1⟩, (listP bndP st).2) := by rw [hst]; rfl
    rw [← hst] at hr hs2
    obtain ⟨L, hL⟩ : ∃ L, L = (listP bndP st).1 := ⟨_, rfl⟩
    obtain ⟨n, hn⟩ : ∃ n, n = L.length := ⟨_, rfl⟩
    rw [← hL] at hr hpv
    obtain ⟨A, cap, rfl, hc1, hc2, hS⟩ := hr.seen (Nat.le_refl _)
    rw [← hn] at hS hc1 ⊢
    have hzv := hv.lt
    have hz3 := h3.lt
    have hzg := hg.size
    have hv2 := hv.grown hg2 (by simp; omega)
    have h32 := h3.grown hg2 (by simp; omega)
    replace hpv := Lib.hid hpv
    replace hL := Lib.hid hL
    replace hn := Lib.hid hn
    clear hE hs hst s4 l4 hv h3 hr
    obtain ⟨so1, so2⟩ := blk_store hv2 2 (.slice A n cap)
    have f2 := hv2.frozen 2
    have q2 := hv2.cellv 2 (v := .slice none 0 0) rfl
    have l2 := hv2.lt
    go_upto_region 3 with (fail)
    clear f2 q2 l2
    generalize w2.setCell ⟨a4, 2, none⟩ (.slice A n cap) = w3 at *
    have h33 := h32.grown so2 (by simp; omega)
    replace so1 : Blk w3 a4 53 #[.int .u32 (numV s 4), .int .i64 (numV (nx s 4) 1), .slice A n cap] := so1
    have hi3 : (Tryz.prog.info? 53).map (·.size) = some (3 : Nat) := by kernel_rfl
    go_wp2_with (first
      | (refine wpList_load_blk rfl so1 53 (.tmp 4) rfl rfl Tryz.underlying53 rfl hi3 ?_)
      | (refine wpList_store_blk rfl h33 53 (.tmp 3) (.tmp 14) rfl rfl rfl rfl hi3 (by simp [Value.oneCell']) ?_; intro w9 h9 hg9))
    refine bodyPost_ret (results_c rfl _ rfl (load_blk h9 Tryz.underlying53 rfl hi3)) rfl ?_
    have hSx := (hS.grown so2 fun b q => ⟨q.2, fun e => by injection e with e; omega⟩).grown hg9 fun b q => ⟨Nat.lt_of_lt_of_le q.2 so2.size, fun e => by injection e with e; omega⟩
    refine ⟨⟨numV s 4, numV (nx s 4) 1, A, n, cap, L⟩, rfl, ?_, ⟨numV_u _ _ (by omega), numV_i _ _ (by omega), hc1, hc2, hSx.more fun b q => ⟨by omega, Nat.lt_of_lt_of_le q.2 (Nat.le_trans so2.size hg9.size)⟩⟩, ?_, ?_⟩
    · rw [hpv.out]; rfl
    · rw [hpv.out]; exact (hs2.grown so2 hx6).grown hg9 hx5
    · exact grown_up (grown_up (grown_trans hg hg2) so2 hx8) hg9 hx4
end Go.Proofs.YtecmhakapomepaaGreat

/- config: as many vips as a byte says. -/
namespace Go.Proofs.YtecmhakapomepaaGreat
set_option linter.unusedVariables false
open Go Go.RowKit

theorem manyP_of {α : Type} {one : St → α × St} {P : α → Prop} (h : ∀ s, P (one s).1) : ∀ n s, ∀ a ∈ (manyP one n s).1, P a
  | 0, s, a, ha => by simp [manyP] at ha
  | n + 1, s, a, ha => by
    rw [manyP] at ha
    split at ha
    · rcases List.mem_cons.1 ha with rfl | ha
      · exact h s
      · exact manyP_of h n _ a ha
    · cases ha
theorem listP_le {α : Type} (one : St → α × St) (s : St) : (listP one s).1.length ≤ 255 := by
  have h1 := manyP_len one (numV s 1).toNat (nx s 1)
  have h2 := numV_1 s
  unfold listP
  omega
theorem listP_vips (s : St) : ∀ y : VipW, y ∈ (listP vipP s).1 → y.L.length ≤ 255 := manyP_of (P := fun y : VipW => y.L.length ≤ 255) (fun s => listP_le bndP _) _ _
set_option maxRecDepth 100000 in
set_option maxHeartbeats 8000000 in
theorem manyV_any (w : World) (gs g4 g5 g6 g7 g8 : Nat) (s : St) (hE : PEnv w gs g4 g5 g6 g7 g8) (hs : Src w gs s) : Calls Tryz.prog 23 #[.pointer (some ⟨gs, 0, none⟩), .func (.func 24) #[] #[.pointer (some ⟨g7, 0, none⟩), .pointer (some ⟨g5, 0, none⟩), .pointer (some ⟨g4, 0, none⟩)]] w fun e w' => ∃ v L, e = .returned v ∧ L.map VipV.w = (listP vipP s).1 ∧ Rows vipK w' w.heap.size w.heap.size 53 v L ∧ Src w' gs (listP vipP s).2 ∧ w.grownBy w' (some gs) := by
  obtain ⟨m, hm⟩ : ∃ m : Nat, numV s 1 = m := ⟨(numV s 1).toNat, by have := numV_lo s 1; omega⟩
  have hm255 := numV_1 s
  have hlist : listP vipP s = manyP vipP m (nx s 1) := by unfold listP; rw [hm]; rfl
  obtain ⟨s0, hs0⟩ : ∃ s0, s0 = nx s 1 := ⟨_, rfl⟩
  rw [hlist, ← hs0]
  clear hlist
  obtain ⟨B, hB⟩ : ∃ B, B = w.heap.size := ⟨_, rfl⟩
  rw [← hB]
  have e4 : g4 < B := by rw [hB]; exact hE.s4.lt
  have e5 : g5 < B := by rw [hB]; exact hE.n8.lt
  have e6 : g6 < B := by rw [hB]; exact hE.n16.lt
  have e7 : g7 < B := by rw [hB]; exact hE.ad.lt
  have e8 : g8 < B := by rw [hB]; exact hE.n32.lt
  have hBw2 : w.heap.size ≤ B := by rw [hB]; exact Nat.le_refl _
  have hgB : gs < B := by rw [hB]; exact hs.lt
  have hBw : B ≤ w.heap.size := Nat.le_of_eq hB
  replace hB := Lib.hid hB
  go_enter Tryz.func23, Tryz.ntmps23
  go_wp2_with fail
  refine (u8P w gs s hs).mono ?_
  rintro e w1 ⟨rfl, hs1, hg1⟩
  replace hE := hE.grown hg1
  rw [hm] at hm255 ⊢
  clear hs
  rw [← hs0] at hs1
  clear hs0 hm
  have hm2 : m ≤ 255 := by omega
  have hz1 := hg1.size
  go_wp2_with fail
  go_loopw [5, 6] (fun lv nv wr => ∃ (v : Value) (k : Nat) (st : St) (L : List VipV), v = lv ∧ nv = .int .i64 (k : Int) ∧ k ≤ 255 ∧ (manyP vipP m s0).1 = L.map VipV.w ++ (manyP vipP k st).1 ∧ (manyP vipP m s0).2 = (manyP vipP k st).2 ∧ L.length + k ≤ 255 ∧ Rows vipK wr B B 53 v L ∧ Src wr gs st ∧ PEnv wr gs g4 g5 g6 g7 g8 ∧ w.grownBy wr (some gs)) (fun _ nv _ => (intOf nv).toNat)
  case atStart => exact ⟨_, m, s0, [], rfl, rfl, hm2, rfl, rfl, by simpa using hm2, Rows.nil _ _ _ _, hs1, hE, hg1⟩
  case round =>
  clear hs1 hE hg1
  obtain ⟨lv, k, st, L, rfl, rfl, hk, hl1, hl2, hlen, hr, hst, hE, hg⟩ := hrel
  have hzr := hg.size
  replace hl1 := Lib.hid hl1
  replace hl2 := Lib.hid hl2
  cases k with
  | zero =>
    go_wp2_with fail
    go_ret
    have e1 := hl1.out
    have e2 := hl2.out
    rw [manyP] at e1 e2
    rw [List.append_nil] at e1
    exact ⟨_, L, rfl, e1.symm, hr, by rw [e2]; exact hst, hg⟩
  | succ k =>
    have d1 : decide ((0 : Int) < ((k + 1 : Nat) : Int)) = true := decide_eq_true (by omega)
    have d1' : (0 : Int) < ((k + 1 : Nat) : Int) := by omega
    by_cases he : st.e = 0
    · have d2 : decide (st.e = 0) = true := by simpa using he
      have e1 : manyP vipP (k + 1) st = ((vipP st).1 :: (manyP vipP k (vipP st).2).1, (manyP vipP k (vipP st).2).2) := by rw [manyP, if_pos he]
      have e2 := hl1.out
      have e3 := hl2.out
      rw [e1] at e2 e3
      clear e1 hl1 hl2
      go_wp2_with fail
      refine (err_any wr gs st hst).mono ?_
      rintro e w' ⟨rfl, rfl⟩
      rw [he]
      replace he := Lib.hid he
      clear d2
      go_wp2_with fail
      refine (vip1_any wr gs g4 g5 g6 g7 g8 st hE hst).mono ?_
      rintro e w2 ⟨p, rfl, hpw, hokp, hs2, hg2⟩
      obtain ⟨st2, hst2⟩ : ∃ st2, st2 = (vipP st).2 := ⟨_, rfl⟩
      rw [← hpw, ← hst2] at e2
      rw [← hst2] at e3
      rw [← hst2] at hs2
      rw [show (vipC p).toArray = #[.int .u32 p.ad, .int .i64 p.pct, .slice p.A p.n p.c] from rfl]
      replace e2 := Lib.hid e2
      replace e3 := Lib.hid e3
      clear hpw hst2
      have hbx := (Below.refl w2.heap.size w2).alloc (Nat.le_refl _) (.cells #[.int .u32 p.ad, .int .i64 p.pct, .slice p.A p.n p.c] 53)
      have hz2 := hg2.size
      have hBz : B ≤ w2.heap.size := by omega
      have hr2 := rows_grown hr hg2 hgB
      have hlit : Seen vipK (w2.alloc (.cells #[.int .u32 p.ad, .int .i64 p.pct, .slice p.A p.n p.c] 53)) (fun _ => True) (some ⟨w2.heap.size, 0, none⟩) 1 [p] := seen_one w2 53 p #[.int .u32 p.ad, .int .i64 p.pct, .slice p.A p.n p.c] rfl hokp (fun b q => q.2) trivial (fun _ _ => trivial)
      have hr3 := hr2.alloc (.cells #[.int .u32 p.ad, .int .i64 p.pct, .slice p.A p.n p.c] 53)
      have hs3 := hs2.alloc (.cells #[.int .u32 p.ad, .int .i64 p.pct, .slice p.A p.n p.c] 53)
      have hE3 := (hE.grown hg2).alloc (.cells #[.int .u32 p.ad, .int .i64 p.pct, .slice p.A p.n p.c] 53)
      have hg3 := grown_belowB (grown_trans hg hg2) (hbx.mono hBz) hBw2
      have hw3 : B ≤ (w2.alloc (.cells #[.int .u32 p.ad, .int .i64 p.pct, .slice p.A p.n p.c] 53)).heap.size := Nat.le_trans hBz hbx.size
      have hL255 : L.length + 1 ≤ 256 := by omega
      have hL1 : L.length + 1 ≤ maxLen := by unfold maxLen; omega
      have hL2 : (L.length + 1) * 40 ≤ 140737488355328 := by omega
      have hokE : ∀ e ∈ [p], vipK.ok (w2.alloc (.cells #[.int .u32 p.ad, .int .i64 p.pct, .slice p.A p.n p.c] 53)) (fun b => B ≤ b ∧ b < (w2.alloc (.cells #[.int .u32 p.ad, .int .i64 p.pct, .slice p.A p.n p.c] 53)).heap.size ∧ lv.ownBlock ≠ some b) e := by
        intro e he
        rw [List.mem_singleton.1 he]
        exact vipK.more (vipK.keep hokp fun q hq => hbx.cell hq.2) fun b q => ⟨by omega, Nat.lt_of_lt_of_le q.2 hbx.size, fun e => by have := (hr.own b e).2; omega⟩
      have hlen2 : (L ++ [p]).length + k ≤ 255 := by simp; omega
      go_wp2_with (at_builtin; refine wpList_rows vipM_ok rfl (.tmp 18) (.tmp 21) rfl hr3 rfl rfl hlit hokE hL1 hL2 hw3 ?_; intro v4 w4 hr4 hg4)
      have hb4 := hr3.below_app hg4 hw3
      refine ⟨⟨v4, k, st2, L ++ [p], rfl, by go_num, by omega, by rw [e2.out, List.map_append, List.append_assoc]; rfl, e3.out, hlen2, hr4, hs3.below hb4 hgB, hE3.belowB hb4 e4 e5 e6 e7 e8, grown_belowB hg3 hb4 hBw2⟩, by simp [intOf]⟩
    · have d2 : decide (st.e = 0) = false := by simpa using he
      have d3 : (st.e == 0) = false := by simpa using he
      have e1 : manyP vipP (k + 1) st = ([], st) := by rw [manyP, if_neg he]
      have e2 := hl1.out
      have e3 := hl2.out
      rw [e1] at e2 e3
      rw [List.append_nil] at e2
      clear e1 hl1 hl2
      replace e2 := Lib.hid e2
      replace e3 := Lib.hid e3
      replace he := Lib.hid he
      go_wp2_with fail
      refine (err_any wr gs st hst).mono ?_
      rintro e w' ⟨rfl, rfl⟩
      go_wp2_with fail
      go_ret
      exact ⟨_, L, rfl, e2.out.symm, hr, by rw [e3.out]; exact hst, hg⟩
end Go.Proofs.YtecmhakapomepaaGreat
