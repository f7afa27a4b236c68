import Derived.Test.YtecmhakapomepaaGreatMConfigForms24
import Derived.Test.YtecmhakapomepaaGreatMConfigForms30
import Derived.Test.YtecmhakapomepaaGreatMConfigForms35
import Derived.Test.YtecmhakapomepaaGreatMConfigForms20
import Derived.Test.YtecmhakapomepaaGreatMConfigForms2
/- config: ConfigForms, the walk. -/
namespace Go.Proofs.YtecmhakapomepaaGreat
set_option linter.unusedVariables false
open Go Go.RowKit Go.Maps

theorem again_w {c c' : CfgV} (h : Again c c') : c'.w = c.w ∧ (CfgSm c → CfgSm c') := by
  obtain ⟨A3, c3, A4, c4, A5, c5, rfl⟩ := h
  exact ⟨rfl, fun q => ⟨q.p, q.v, q.s, q.b⟩⟩
theorem outY_again {c c' : CfgV} (h : Again c c') : outY c' = outY c := by
  obtain ⟨A3, c3, A4, c4, A5, c5, rfl⟩ := h
  rfl
set_option maxRecDepth 100000 in
set_option maxHeartbeats 16000000 in
theorem forms_core (w : World) (c d : CfgV) (A : Option Addr) (n cc : Nat) (l : List UInt8) (h : CfgIn w c) (h' : CfgIn w d) (hy : Byt w w.heap.size A n l) :
    Calls Tryz.prog 3 #[.agg (cfgC c), .agg (cfgC d), .slice A n cc] w fun e w' => e = .returned (.bool true) ∧ Below w.heap.size w w' := by
  have hB := ((Below.refl w.heap.size w).alloc (Nat.le_refl _) (.cells (cfgC c) 29)).alloc (by simp) (.cells (cfgC d) 29)
  have hq := (Blk.new w 29 (cfgC c)).alloc (.cells (cfgC d) 29)
  have hd := Blk.new (w.alloc (.cells (cfgC c) 29)) 29 (cfgC d)
  rw [World.size_alloc] at hd
  have hC := h.nx hB
  have hD := h'.nx hB
  have hby := hy.keep fun p hp => hB.cell hp
  have hB0 := hB.size
  clear h h' hy
  have hiC : (Tryz.prog.info? 29).map (·.size) = some (cfgC c).size := by kernel_rfl
  have hiD : (Tryz.prog.info? 29).map (·.size) = some (cfgC d).size := by kernel_rfl
  go_enter Tryz.func3, Tryz.ntmps3
  go_upto_region 1 with (fail)
  generalize (w.alloc (.cells (cfgC c) 29)).alloc (.cells (cfgC d) 29) = w1 at *
  generalize hg4 : w.heap.size + 1 = g4 at *
  replace hg4 := Lib.hid hg4
  go_wp2_with (first | (refine wpList_load_blk rfl hq 29 (.tmp 3) rfl rfl Tryz.underlying29 rfl hiC ?_) | (refine wpList_load_blk rfl hd 29 (.tmp 4) rfl rfl Tryz.underlying29 rfl hiD ?_) | (refine wpList_load_blk_w rfl hd 29 (.tmp 4) rfl rfl Tryz.underlying29 rfl hiD ?_))
  refine (small_any w1 c hC).mono ?_
  rintro e w2 ⟨rfl, hb⟩
  replace hC := hC.nx hb
  replace hD := hD.nx hb
  replace hq := hq.below hb hq.lt
  replace hd := hd.below hb hd.lt
  replace hby := hby.keep fun p hp => hb.cell (Nat.lt_of_lt_of_le hp hB0)
  replace hB0 := Nat.le_trans hB0 hb.size
  replace hB := hB.trans (hb.mono hB.size)
  clear hb
  cases hsm : smallB c
  case false =>
    go_wp2_with fail
    refine (lives32_any w2).mono ?_
    rintro e w9 ⟨rfl, hb⟩
    go_wp2_with fail
    go_ret
    exact ⟨rfl, hB.trans (hb.mono hB.size)⟩
  case true =>
  have hs := small_sm hsm
  clear hsm
  go_wp2_with (first | (refine wpList_load_blk rfl hq 29 (.tmp 3) rfl rfl Tryz.underlying29 rfl hiC ?_) | (refine wpList_load_blk rfl hd 29 (.tmp 4) rfl rfl Tryz.underlying29 rfl hiD ?_) | (refine wpList_load_blk_w rfl hd 29 (.tmp 4) rfl rfl Tryz.underlying29 rfl hiD ?_))
  refine (small_any w2 d hD).mono ?_
  rintro e w3 ⟨rfl, hb⟩
  replace hC := hC.nx hb
  replace hD := hD.nx hb
  replace hq := hq.below hb hq.lt
  replace hd := hd.below hb hd.lt
  replace hby := hby.keep fun p hp => hb.cell (Nat.lt_of_lt_of_le hp hB0)
  replace hB0 := Nat.le_trans hB0 hb.size
  replace hB := hB.trans (hb.mono hB.size)
  clear hb
  cases hsm : smallB d
  case false =>
    go_wp2_with fail
    refine (lives32_any w3).mono ?_
    rintro e w9 ⟨rfl, hb⟩
    go_wp2_with fail
    go_ret
    exact ⟨rfl, hB.trans (hb.mono hB.size)⟩
  case true =>
  have hs' := small_sm hsm
  clear hsm
  by_cases hn : (5000 : Int) < n
  case pos =>
    go_wp2_with fail
    refine (lives32_any w3).mono ?_
    rintro e w9 ⟨rfl, hb⟩
    go_wp2_with fail
    go_ret
    exact ⟨rfl, hB.trans (hb.mono hB.size)⟩
  case neg =>
  have hn5 : n ≤ 5000 := by omega
  go_wp2_with fail
  refine (parseC_any w3 A n cc l w.heap.size hby hB0 hn5).mono ?_
  rintro e w4 ⟨x, rfl, hX, hsx, hxw, hb⟩
  replace hC := hC.nx hb
  replace hD := hD.nx hb
  replace hq := hq.below hb hq.lt
  replace hd := hd.below hb hd.lt
  replace hby := hby.keep fun p hp => hb.cell (Nat.lt_of_lt_of_le hp hB0)
  replace hB0 := Nat.le_trans hB0 hb.size
  replace hB := hB.trans (hb.mono hB.size)
  clear hb
  replace hxw := Lib.hid hxw
  obtain ⟨E, hE⟩ : ∃ E, parseE l = E := ⟨_, rfl⟩
  rw [hE]
  have hiX : (Tryz.prog.info? 29).map (·.size) = some (cfgC x).size := by kernel_rfl
  have hb := (Below.refl w4.heap.size w4).alloc (Nat.le_refl _) (.cells #[.int .i64 0, .int .u32 0, .int .u32 0, .slice none 0 0, .slice none 0 0, .slice none 0 0, .int .i64 0, .int .i64 0, .int .i64 0, .int .i64 0, .int .i64 0, .int .i64 0, .int .i64 0, .int .i64 0, .int .i64 0, .int .i64 0, .int .i64 0, .int .i64 0, .int .i64 0] 29)
  have hfr := Blk.new w4 29 #[.int .i64 0, .int .u32 0, .int .u32 0, .slice none 0 0, .slice none 0 0, .slice none 0 0, .int .i64 0, .int .i64 0, .int .i64 0, .int .i64 0, .int .i64 0, .int .i64 0, .int .i64 0, .int .i64 0, .int .i64 0, .int .i64 0, .int .i64 0, .int .i64 0, .int .i64 0]
  go_upto_region 4 with (refine wpList_store_blk rfl hfr 29 (.tmp 7) (.tmp 29) rfl rfl rfl rfl hiX (by simp [cfgC, Value.oneCell']) ?_; intro w5 h7 hg)
  replace hb := hb.trans (Below.of_grown (B := w4.heap.size) hg (by simp) (Nat.le_refl _))
  replace hC := hC.nx hb
  replace hD := hD.nx hb
  replace hq := hq.below hb hq.lt
  replace hd := hd.below hb hd.lt
  replace hby := hby.keep fun p hp => hb.cell (Nat.lt_of_lt_of_le hp hB0)
  replace hB0 := Nat.le_trans hB0 hb.size
  replace hB := hB.trans (hb.mono hB.size)
  replace hX := hX.nx hb
  clear hb hg hfr
  generalize w4.heap.size = g7 at *
  go_wp2_with fail
  refine (refParseC_any w5 A n cc l w.heap.size hby hB0 hn5).mono ?_
  rintro e w6 ⟨y, rfl, hY, hsy, hyw, hb⟩
  rw [hE]
  replace hC := hC.nx hb
  replace hD := hD.nx hb
  replace hq := hq.below hb hq.lt
  replace hd := hd.below hb hd.lt
  replace hby := hby.keep fun p hp => hb.cell (Nat.lt_of_lt_of_le hp hB0)
  replace hB0 := Nat.le_trans hB0 hb.size
  replace hB := hB.trans (hb.mono hB.size)
  replace hX := hX.nx hb
  replace h7 := h7.below hb h7.lt
  clear hb
  replace hyw := Lib.hid hyw
  replace hE := Lib.hid hE
  have hiY : (Tryz.prog.info? 41).map (·.size) = some (cfgC y).size := by kernel_rfl
  have hb := (Below.refl w6.heap.size w6).alloc (Nat.le_refl _) (.cells #[.int .i64 0, .int .u32 0, .int .u32 0, .slice none 0 0, .slice none 0 0, .slice none 0 0, .int .i64 0, .int .i64 0, .int .i64 0, .int .i64 0, .int .i64 0, .int .i64 0, .int .i64 0, .int .i64 0, .int .i64 0, .int .i64 0, .int .i64 0, .int .i64 0, .int .i64 0] 41)
  have hfr := Blk.new w6 41 #[.int .i64 0, .int .u32 0, .int .u32 0, .slice none 0 0, .slice none 0 0, .slice none 0 0, .int .i64 0, .int .i64 0, .int .i64 0, .int .i64 0, .int .i64 0, .int .i64 0, .int .i64 0, .int .i64 0, .int .i64 0, .int .i64 0, .int .i64 0, .int .i64 0, .int .i64 0]
  go_upto_region 5 with (refine wpList_store_blk rfl hfr 41 (.tmp 9) (.tmp 34) rfl rfl rfl rfl hiY (by simp [cfgC, Value.oneCell']) ?_; intro w7 h9 hg)
  replace hb := hb.trans (Below.of_grown (B := w6.heap.size) hg (by simp) (Nat.le_refl _))
  replace hC := hC.nx hb
  replace hD := hD.nx hb
  replace hq := hq.below hb hq.lt
  replace hd := hd.below hb hd.lt
  replace hby := hby.keep fun p hp => hb.cell (Nat.lt_of_lt_of_le hp hB0)
  replace hB0 := Nat.le_trans hB0 hb.size
  replace hB := hB.trans (hb.mono hB.size)
  replace hX := hX.nx hb
  replace h7 := h7.below hb h7.lt
  replace hY := hY.nx hb
  clear hb hg hfr
  generalize w6.heap.size = g9 at *
  -- region 5: 0 1C 2 3 4C 5C 6 7 8 9 10C 11 12C 13 14 15 16 17 18 19
  try refine wp_region_noPanic ?_
  refine wp_region_lat (by kernel_rfl) ?_
  (refine lat_now 0 (by rfl) ?_ (by kernel_rfl) (fun _ _ _ h => h) ?_ ?_; rotate_left; (focus (intro wq hSw; refine exec_load_blk (x := .tmp 3) ?_ ?_ (hq.below hSw hq.lt) _ Tryz.underlying29 rfl (by kernel_rfl) <;> rfl)); simp only [Act.put, List.setIfInBounds_toArray, List.set_cons_zero, List.set_cons_succ])
  (refine lat_now 3 (by rfl) ?_ (by kernel_rfl) (fun _ _ _ h => h) ?_ ?_; rotate_left; (focus (intro wq hSw; refine exec_load_blk (x := .tmp 3) ?_ ?_ (hq.below hSw hq.lt) _ Tryz.underlying29 rfl (by kernel_rfl) <;> rfl)); simp only [Act.put, List.setIfInBounds_toArray, List.set_cons_zero, List.set_cons_succ])
  refine lat_call 1 (by rfl) (by kernel_rfl) (by rfl) (fun x1 hx KQ hKQ => ?_)
  go_simp
  replace h7 := h7.below hx h7.lt
  replace h9 := h9.below hx h9.lt
  replace hq := hq.below hx hq.lt
  replace hC := hC.nx hx
  replace hD := hD.nx hx
  replace hd := hd.below hx hd.lt
  replace hby := hby.keep fun p hp => hx.cell (Nat.lt_of_lt_of_le hp hB0)
  replace hB0 := Nat.le_trans hB0 hx.size
  replace hB := hB.trans (hx.mono hB.size)
  replace hX := hX.nx hx
  replace hY := hY.nx hx
  clear hx
  refine (bytesC_any x1 c hC hs).mono ?_
  rintro e y1 ⟨v, rfl, own, hb⟩
  obtain ⟨A1, c1, rfl, _, _, by1, _⟩ := own.any2
  clear own
  replace hC := hC.nx hb
  replace hD := hD.nx hb
  replace hd := hd.below hb hd.lt
  replace hby := hby.keep fun p hp => hb.cell (Nat.lt_of_lt_of_le hp hB0)
  replace hB0 := Nat.le_trans hB0 hb.size
  replace hB := hB.trans (hb.mono hB.size)
  replace hX := hX.nx hb
  replace hY := hY.nx hb
  refine hKQ.out _ _ hb ?_
  clear hKQ KQ
  replace h7 := h7.below hb h7.lt
  replace h9 := h9.below hb h9.lt
  replace hq := hq.below hb hq.lt
  try simp only [Act.put, List.setIfInBounds_toArray, List.set_cons_zero, List.set_cons_succ]
  (refine lat_now 2 (by rfl) ?_ (by kernel_rfl) (fun _ _ _ h => h) ?_ ?_; rotate_left; (focus (intro wq hSw; have q := run_str wq (by1.below hSw) c1; go_simp; try with_reducible rfl; done)); simp only [Act.put, List.setIfInBounds_toArray, List.set_cons_zero, List.set_cons_succ])
  clear hb
  refine lat_call 4 (by rfl) (by kernel_rfl) (by rfl) (fun x2 hx KQ hKQ => ?_)
  go_simp
  replace h7 := h7.below hx h7.lt
  replace h9 := h9.below hx h9.lt
  replace hq := hq.below hx hq.lt
  replace hC := hC.nx hx
  replace hD := hD.nx hx
  replace hd := hd.below hx hd.lt
  replace hby := hby.keep fun p hp => hx.cell (Nat.lt_of_lt_of_le hp hB0)
  replace hB0 := Nat.le_trans hB0 hx.size
  replace hB := hB.trans (hx.mono hB.size)
  replace hX := hX.nx hx
  replace hY := hY.nx hx
  clear hx
  refine (plain_any x2 c hC hs).mono ?_
  rintro e y2 ⟨p, rfl, hag, hP, hb⟩
  replace hC := hC.nx hb
  replace hD := hD.nx hb
  replace hd := hd.below hb hd.lt
  replace hby := hby.keep fun p hp => hb.cell (Nat.lt_of_lt_of_le hp hB0)
  replace hB0 := Nat.le_trans hB0 hb.size
  replace hB := hB.trans (hb.mono hB.size)
  replace hX := hX.nx hb
  replace hY := hY.nx hb
  refine hKQ.out _ _ hb ?_
  clear hKQ KQ
  replace h7 := h7.below hb h7.lt
  replace h9 := h9.below hb h9.lt
  replace hq := hq.below hb hq.lt
  try simp only [Act.put, List.setIfInBounds_toArray, List.set_cons_zero, List.set_cons_succ]
  clear hb
  refine lat_call 5 (by rfl) (by kernel_rfl) (by rfl) (fun x3 hx KQ hKQ => ?_)
  go_simp
  replace h7 := h7.below hx h7.lt
  replace h9 := h9.below hx h9.lt
  replace hq := hq.below hx hq.lt
  replace hC := hC.nx hx
  replace hD := hD.nx hx
  replace hd := hd.below hx hd.lt
  replace hby := hby.keep fun p hp => hx.cell (Nat.lt_of_lt_of_le hp hB0)
  replace hB0 := Nat.le_trans hB0 hx.size
  replace hB := hB.trans (hx.mono hB.size)
  replace hX := hX.nx hx
  replace hY := hY.nx hx
  replace hP := hP.nx hx
  clear hx
  refine (refBytesC_any x3 p hP ((again_w hag).2 hs)).mono ?_
  rintro e y3 ⟨v, rfl, own, hb⟩
  rw [outY_again hag] at own
  obtain ⟨A2, c2, rfl, _, _, by2, _⟩ := own.any2
  clear own hP hag
  replace hC := hC.nx hb
  replace hD := hD.nx hb
  replace hd := hd.below hb hd.lt
  replace hby := hby.keep fun p hp => hb.cell (Nat.lt_of_lt_of_le hp hB0)
  replace hB0 := Nat.le_trans hB0 hb.size
  replace hB := hB.trans (hb.mono hB.size)
  replace hX := hX.nx hb
  replace hY := hY.nx hb
  refine hKQ.out _ _ hb ?_
  clear hKQ KQ
  replace h7 := h7.below hb h7.lt
  replace h9 := h9.below hb h9.lt
  replace hq := hq.below hb hq.lt
  try simp only [Act.put, List.setIfInBounds_toArray, List.set_cons_zero, List.set_cons_succ]
  (refine lat_now 6 (by rfl) ?_ (by kernel_rfl) (fun _ _ _ h => h) ?_ ?_; rotate_left; (focus (intro wq hSw; have q := run_str wq (by2.below hSw) c2; go_simp; try with_reducible rfl; done)); simp only [Act.put, List.setIfInBounds_toArray, List.set_cons_zero, List.set_cons_succ])
  (refine lat_now 7 (by rfl) ?_ (by kernel_rfl) (fun _ _ _ h => h) ?_ ?_; rotate_left; (focus (intro wq hSw; have hrd : ∀ b o, b < y3.heap.size → wq.cell? ⟨b, o, none⟩ = y3.cell? ⟨b, o, none⟩ := (fun b o h => Below.cell hSw (p := ⟨b, o, none⟩) h); go_simp; try with_reducible rfl; done)); try simp only [Act.put, List.setIfInBounds_toArray, List.set_cons_zero, List.set_cons_succ])
  (refine lat_now 8 (by rfl) ?_ (by kernel_rfl) (fun _ _ _ h => h) ?_ ?_; rotate_left; (focus (intro wq hSw; have hrd : ∀ b o, b < y3.heap.size → wq.cell? ⟨b, o, none⟩ = y3.cell? ⟨b, o, none⟩ := (fun b o h => Below.cell hSw (p := ⟨b, o, none⟩) h); go_simp; try with_reducible rfl; done)); try simp only [Act.put, List.setIfInBounds_toArray, List.set_cons_zero, List.set_cons_succ])
  (refine lat_now 9 (by rfl) ?_ (by kernel_rfl) (fun _ _ _ h => h) ?_ ?_; rotate_left; (focus (intro wq hSw; refine exec_load_blk (x := .tmp 7) ?_ ?_ (h7.below hSw h7.lt) _ Tryz.underlying29 rfl (by kernel_rfl) <;> rfl)); simp only [Act.put, List.setIfInBounds_toArray, List.set_cons_zero, List.set_cons_succ])
  (refine lat_now 11 (by rfl) ?_ (by kernel_rfl) (fun _ _ _ h => h) ?_ ?_; rotate_left; (focus (intro wq hSw; refine exec_load_blk (x := .tmp 9) ?_ ?_ (h9.below hSw h9.lt) _ Tryz.underlying41 rfl (by kernel_rfl) <;> rfl)); simp only [Act.put, List.setIfInBounds_toArray, List.set_cons_zero, List.set_cons_succ])
  clear hb
  refine lat_call 10 (by rfl) (by kernel_rfl) (by rfl) (fun x4 hx KQ hKQ => ?_)
  go_simp
  replace h7 := h7.below hx h7.lt
  replace h9 := h9.below hx h9.lt
  replace hq := hq.below hx hq.lt
  replace hC := hC.nx hx
  replace hD := hD.nx hx
  replace hd := hd.below hx hd.lt
  replace hby := hby.keep fun p hp => hx.cell (Nat.lt_of_lt_of_le hp hB0)
  replace hB0 := Nat.le_trans hB0 hx.size
  replace hB := hB.trans (hx.mono hB.size)
  replace hX := hX.nx hx
  replace hY := hY.nx hx
  clear hx
  refine (plain_any x4 x hX hsx).mono ?_
  rintro e y4 ⟨p, rfl, hag, hP, hb⟩
  have hpw := Lib.hid (((again_w hag).1.trans hxw.out).trans hyw.out.symm)
  have hps := (again_w hag).2 hsx
  replace hC := hC.nx hb
  replace hD := hD.nx hb
  replace hd := hd.below hb hd.lt
  replace hby := hby.keep fun p hp => hb.cell (Nat.lt_of_lt_of_le hp hB0)
  replace hB0 := Nat.le_trans hB0 hb.size
  replace hB := hB.trans (hb.mono hB.size)
  replace hX := hX.nx hb
  replace hY := hY.nx hb
  refine hKQ.out _ _ hb ?_
  clear hKQ KQ
  replace h7 := h7.below hb h7.lt
  replace h9 := h9.below hb h9.lt
  replace hq := hq.below hb hq.lt
  try simp only [Act.put, List.setIfInBounds_toArray, List.set_cons_zero, List.set_cons_succ]
  clear hb
  have hsame : ∀ wq, Lat y4 wq → Calls Tryz.prog 11 #[.agg (cfgC p), .agg (cfgC y)] wq fun e w' => e = .returned (.bool true) ∧ Below wq.heap.size wq w' := fun wq hSw => by
    have q := refSameC_any wq p y (hP.nx hSw) (hY.nx hSw) hps
    rw [decide_eq_true hpw.out] at q
    exact q
  replace hsame := Lib.hid hsame
  (refine lat_late 12 (by rfl) (.bool true) (by kernel_rfl) (fun _ _ _ h => h) (fun wq hSw => ⟨_, _, ?_, hsame.out wq hSw⟩) ?_; focus (go_simp; try with_reducible rfl; done); try simp only [Act.put, List.setIfInBounds_toArray, List.set_cons_zero, List.set_cons_succ])
  (refine lat_now 13 (by rfl) ?_ (by kernel_rfl) (fun _ _ _ h => h) ?_ ?_; rotate_left; (focus (intro wq hSw; have hrd : ∀ b o, b < y4.heap.size → wq.cell? ⟨b, o, none⟩ = y4.cell? ⟨b, o, none⟩ := (fun b o h => Below.cell hSw (p := ⟨b, o, none⟩) h); go_simp; try with_reducible rfl; done)); try simp only [Act.put, List.setIfInBounds_toArray, List.set_cons_zero, List.set_cons_succ])
  (refine lat_now 14 (by rfl) ?_ (by kernel_rfl) (fun _ _ _ h => h) ?_ ?_; rotate_left; (focus (intro wq hSw; have hrd : ∀ b o, b < y4.heap.size → wq.cell? ⟨b, o, none⟩ = y4.cell? ⟨b, o, none⟩ := (fun b o h => Below.cell hSw (p := ⟨b, o, none⟩) h); go_simp; try with_reducible rfl; done)); try simp only [Act.put, List.setIfInBounds_toArray, List.set_cons_zero, List.set_cons_succ])
  (refine lat_now 15 (by rfl) ?_ (by kernel_rfl) (fun _ _ _ h => h) ?_ ?_; rotate_left; (focus (intro wq hSw; have hrd : ∀ b o, b < y4.heap.size → wq.cell? ⟨b, o, none⟩ = y4.cell? ⟨b, o, none⟩ := (fun b o h => Below.cell hSw (p := ⟨b, o, none⟩) h); go_simp; try with_reducible rfl; done)); try simp only [Act.put, List.setIfInBounds_toArray, List.set_cons_zero, List.set_cons_succ])
  (refine lat_now 16 (by rfl) ?_ (by kernel_rfl) (fun _ _ _ h => h) ?_ ?_; rotate_left; (focus (intro wq hSw; have hrd : ∀ b o, b < y4.heap.size → wq.cell? ⟨b, o, none⟩ = y4.cell? ⟨b, o, none⟩ := (fun b o h => Below.cell hSw (p := ⟨b, o, none⟩) h); go_simp; try with_reducible rfl; done)); try simp only [Act.put, List.setIfInBounds_toArray, List.set_cons_zero, List.set_cons_succ])
  (refine lat_now 17 (by rfl) ?_ (by kernel_rfl) (fun _ _ _ h => h) ?_ ?_; rotate_left; (focus (intro wq hSw; have hrd : ∀ b o, b < y4.heap.size → wq.cell? ⟨b, o, none⟩ = y4.cell? ⟨b, o, none⟩ := (fun b o h => Below.cell hSw (p := ⟨b, o, none⟩) h); go_simp; try with_reducible rfl; done)); try simp only [Act.put, List.setIfInBounds_toArray, List.set_cons_zero, List.set_cons_succ])
  (refine lat_now 18 (by rfl) ?_ (by kernel_rfl) (fun _ _ _ h => h) ?_ ?_; rotate_left; (focus (intro wq hSw; have hrd : ∀ b o, b < y4.heap.size → wq.cell? ⟨b, o, none⟩ = y4.cell? ⟨b, o, none⟩ := (fun b o h => Below.cell hSw (p := ⟨b, o, none⟩) h); go_simp; try with_reducible rfl; done)); try simp only [Act.put, List.setIfInBounds_toArray, List.set_cons_zero, List.set_cons_succ])
  (refine lat_now 19 (by rfl) ?_ (by kernel_rfl) (fun _ _ _ h => h) ?_ ?_; rotate_left; (focus (intro wq hSw; have hrd : ∀ b o, b < y4.heap.size → wq.cell? ⟨b, o, none⟩ = y4.cell? ⟨b, o, none⟩ := (fun b o h => Below.cell hSw (p := ⟨b, o, none⟩) h); go_simp; try with_reducible rfl; done)); try simp only [Act.put, List.setIfInBounds_toArray, List.set_cons_zero, List.set_cons_succ])
  refine lat_done (by kernel_rfl) (fun wz hz => ?_) _
  try refine NoPanic.normal ?_
  clear hsame hP hag hpw hps by1 by2
  replace hC := hC.nx hz
  replace hD := hD.nx hz
  replace hq := hq.below hz hq.lt
  replace hd := hd.below hz hd.lt
  replace hby := hby.keep fun p hp => hz.cell (Nat.lt_of_lt_of_le hp hB0)
  replace hB0 := Nat.le_trans hB0 hz.size
  replace hB := hB.trans (hz.mono hB.size)
  replace hX := hX.nx hz
  replace h7 := h7.below hz h7.lt
  replace hY := hY.nx hz
  replace h9 := h9.below hz h9.lt
  clear hz h7 h9 hX hY hby
  go_upto_region 6 with (fail)
  generalize hwz0 : wz = w8 at *
  clear hwz0
  obtain ⟨X, hXe⟩ : ∃ X, decide (c.w = d.w) = X := ⟨_, rfl⟩
  have hsC : ∀ wq, Lat w8 wq → Calls Tryz.prog 12 #[.agg (cfgC c), .agg (cfgC d)] wq fun e w' => e = .returned (.bool X) ∧ Below wq.heap.size wq w' := fun wq hSw => by
    have q := sameC_any wq c d (hC.nx hSw) (hD.nx hSw) hs
    rw [hXe] at q
    exact q
  replace hsC := Lib.hid hsC
  replace hXe := Lib.hid hXe
  -- region 6: 0 1 2 3 4C 5 6C 7 8C 9C 10 11 12 13 14C 15 16C 17 18 19C 20 21
  try refine wp_region_noPanic ?_
  refine wp_region_lat (by kernel_rfl) ?_
  (refine lat_now 0 (by rfl) ?_ (by kernel_rfl) (fun _ _ _ h => h) ?_ ?_; rotate_left; (focus (intro wq hSw; have hrd : ∀ b o, b < w8.heap.size → wq.cell? ⟨b, o, none⟩ = w8.cell? ⟨b, o, none⟩ := (fun b o h => Below.cell hSw (p := ⟨b, o, none⟩) h); go_simp; try with_reducible rfl; done)); try simp only [Act.put, List.setIfInBounds_toArray, List.set_cons_zero, List.set_cons_succ])
  (refine lat_now 1 (by rfl) ?_ (by kernel_rfl) (fun _ _ _ h => h) ?_ ?_; rotate_left; (focus (intro wq hSw; have hrd : ∀ b o, b < w8.heap.size → wq.cell? ⟨b, o, none⟩ = w8.cell? ⟨b, o, none⟩ := (fun b o h => Below.cell hSw (p := ⟨b, o, none⟩) h); go_simp; try with_reducible rfl; done)); try simp only [Act.put, List.setIfInBounds_toArray, List.set_cons_zero, List.set_cons_succ])
  (refine lat_now 2 (by rfl) ?_ (by kernel_rfl) (fun _ _ _ h => h) ?_ ?_; rotate_left; (focus (intro wq hSw; refine exec_load_blk (x := .tmp 3) ?_ ?_ (hq.below hSw hq.lt) _ Tryz.underlying29 rfl (by kernel_rfl) <;> rfl)); simp only [Act.put, List.setIfInBounds_toArray, List.set_cons_zero, List.set_cons_succ])
  (refine lat_now 3 (by rfl) ?_ (by kernel_rfl) (fun _ _ _ h => h) ?_ ?_; rotate_left; (focus (intro wq hSw; refine exec_load_blk (x := .tmp 4) ?_ ?_ (hd.below hSw hd.lt) _ Tryz.underlying29 rfl (by kernel_rfl) <;> rfl)); simp only [Act.put, List.setIfInBounds_toArray, List.set_cons_zero, List.set_cons_succ])
  (refine lat_now 5 (by rfl) ?_ (by kernel_rfl) (fun _ _ _ h => h) ?_ ?_; rotate_left; (focus (intro wq hSw; refine exec_load_blk (x := .tmp 3) ?_ ?_ (hq.below hSw hq.lt) _ Tryz.underlying29 rfl (by kernel_rfl) <;> rfl)); simp only [Act.put, List.setIfInBounds_toArray, List.set_cons_zero, List.set_cons_succ])
  (refine lat_now 7 (by rfl) ?_ (by kernel_rfl) (fun _ _ _ h => h) ?_ ?_; rotate_left; (focus (intro wq hSw; refine exec_load_blk (x := .tmp 4) ?_ ?_ (hd.below hSw hd.lt) _ Tryz.underlying29 rfl (by kernel_rfl) <;> rfl)); simp only [Act.put, List.setIfInBounds_toArray, List.set_cons_zero, List.set_cons_succ])
  (refine lat_late 4 (by rfl) (.bool X) (by kernel_rfl) (fun _ _ _ h => h) (fun wq hSw => ⟨_, _, ?_, hsC.out wq hSw⟩) ?_; focus (go_simp; try with_reducible rfl; done); try simp only [Act.put, List.setIfInBounds_toArray, List.set_cons_zero, List.set_cons_succ])
  refine lat_call 6 (by rfl) (by kernel_rfl) (by rfl) (fun x1 hx KQ hKQ => ?_)
  go_simp
  replace hd := hd.below hx hd.lt
  replace hq := hq.below hx hq.lt
  replace hC := hC.nx hx
  replace hD := hD.nx hx
  replace hB := hB.trans (hx.mono hB.size)
  clear hx
  refine (plain_any x1 c hC hs).mono ?_
  rintro e y1 ⟨p1, rfl, hag1, hP1, hb⟩
  replace hC := hC.nx hb
  replace hD := hD.nx hb
  replace hB := hB.trans (hb.mono hB.size)
  refine hKQ.out _ _ hb ?_
  clear hKQ KQ
  replace hd := hd.below hb hd.lt
  replace hq := hq.below hb hq.lt
  try simp only [Act.put, List.setIfInBounds_toArray, List.set_cons_zero, List.set_cons_succ]
  clear hb
  refine lat_call 8 (by rfl) (by kernel_rfl) (by rfl) (fun x2 hx KQ hKQ => ?_)
  go_simp
  replace hd := hd.below hx hd.lt
  replace hq := hq.below hx hq.lt
  replace hC := hC.nx hx
  replace hD := hD.nx hx
  replace hB := hB.trans (hx.mono hB.size)
  replace hP1 := hP1.nx hx
  clear hx
  refine (plain_any x2 d hD hs').mono ?_
  rintro e y2 ⟨p2, rfl, hag2, hP2, hb⟩
  replace hC := hC.nx hb
  replace hD := hD.nx hb
  replace hB := hB.trans (hb.mono hB.size)
  replace hP1 := hP1.nx hb
  refine hKQ.out _ _ hb ?_
  clear hKQ KQ
  replace hd := hd.below hb hd.lt
  replace hq := hq.below hb hq.lt
  try simp only [Act.put, List.setIfInBounds_toArray, List.set_cons_zero, List.set_cons_succ]
  clear hb
  have hsR : ∀ wq, Lat y2 wq → Calls Tryz.prog 11 #[.agg (cfgC p1), .agg (cfgC p2)] wq fun e w' => e = .returned (.bool X) ∧ Below wq.heap.size wq w' := fun wq hSw => by
    have q := refSameC_any wq p1 p2 (hP1.nx hSw) (hP2.nx hSw) ((again_w hag1).2 hs)
    rw [(again_w hag1).1, (again_w hag2).1, hXe.out] at q
    exact q
  replace hsR := Lib.hid hsR
  (refine lat_late 9 (by rfl) (.bool X) (by kernel_rfl) (fun _ _ _ h => h) (fun wq hSw => ⟨_, _, ?_, hsR.out wq hSw⟩) ?_; focus (go_simp; try with_reducible rfl; done); try simp only [Act.put, List.setIfInBounds_toArray, List.set_cons_zero, List.set_cons_succ])
  (refine lat_now 10 (by rfl) ?_ (by kernel_rfl) (fun _ _ _ h => h) ?_ ?_; rotate_left; (focus (intro wq hSw; have hrd : ∀ b o, b < y2.heap.size → wq.cell? ⟨b, o, none⟩ = y2.cell? ⟨b, o, none⟩ := (fun b o h => Below.cell hSw (p := ⟨b, o, none⟩) h); go_simp; try with_reducible rfl; done)); try simp only [Act.put, List.setIfInBounds_toArray, List.set_cons_zero, List.set_cons_succ])
  (refine lat_now 11 (by rfl) ?_ (by kernel_rfl) (fun _ _ _ h => h) ?_ ?_; rotate_left; (focus (intro wq hSw; have hrd : ∀ b o, b < y2.heap.size → wq.cell? ⟨b, o, none⟩ = y2.cell? ⟨b, o, none⟩ := (fun b o h => Below.cell hSw (p := ⟨b, o, none⟩) h); go_simp; try with_reducible rfl; done)); try simp only [Act.put, List.setIfInBounds_toArray, List.set_cons_zero, List.set_cons_succ])
  (refine lat_now 12 (by rfl) ?_ (by kernel_rfl) (fun _ _ _ h => h) ?_ ?_; rotate_left; (focus (intro wq hSw; have hrd : ∀ b o, b < y2.heap.size → wq.cell? ⟨b, o, none⟩ = y2.cell? ⟨b, o, none⟩ := (fun b o h => Below.cell hSw (p := ⟨b, o, none⟩) h); go_simp; try with_reducible rfl; done)); try simp only [Act.put, List.setIfInBounds_toArray, List.set_cons_zero, List.set_cons_succ])
  (refine lat_now 13 (by rfl) ?_ (by kernel_rfl) (fun _ _ _ h => h) ?_ ?_; rotate_left; (focus (intro wq hSw; refine exec_load_blk (x := .tmp 3) ?_ ?_ (hq.below hSw hq.lt) _ Tryz.underlying29 rfl (by kernel_rfl) <;> rfl)); simp only [Act.put, List.setIfInBounds_toArray, List.set_cons_zero, List.set_cons_succ])
  (refine lat_now 15 (by rfl) ?_ (by kernel_rfl) (fun _ _ _ h => h) ?_ ?_; rotate_left; (focus (intro wq hSw; refine exec_load_blk (x := .tmp 3) ?_ ?_ (hq.below hSw hq.lt) _ Tryz.underlying29 rfl (by kernel_rfl) <;> rfl)); simp only [Act.put, List.setIfInBounds_toArray, List.set_cons_zero, List.set_cons_succ])
  refine lat_call 14 (by rfl) (by kernel_rfl) (by rfl) (fun x3 hx KQ hKQ => ?_)
  go_simp
  replace hd := hd.below hx hd.lt
  replace hq := hq.below hx hq.lt
  replace hC := hC.nx hx
  replace hD := hD.nx hx
  replace hB := hB.trans (hx.mono hB.size)
  replace hP1 := hP1.nx hx
  replace hP2 := hP2.nx hx
  clear hx hsR hsC
  refine (copyC_any x3 c hC hs).mono ?_
  rintro e y3 ⟨k, rfl, hK, hsk, hkw, hb⟩
  replace hC := hC.nx hb
  replace hD := hD.nx hb
  replace hB := hB.trans (hb.mono hB.size)
  replace hP1 := hP1.nx hb
  replace hP2 := hP2.nx hb
  refine hKQ.out _ _ hb ?_
  clear hKQ KQ
  replace hd := hd.below hb hd.lt
  replace hq := hq.below hb hq.lt
  try simp only [Act.put, List.setIfInBounds_toArray, List.set_cons_zero, List.set_cons_succ]
  clear hb
  replace hkw := Lib.hid hkw
  have hsK : ∀ wq, Lat y3 wq → Calls Tryz.prog 12 #[.agg (cfgC k), .agg (cfgC c)] wq fun e w' => e = .returned (.bool true) ∧ Below wq.heap.size wq w' := fun wq hSw => by
    have q := sameC_any wq k c (hK.nx hSw) (hC.nx hSw) hsk
    rw [decide_eq_true hkw.out] at q
    exact q
  replace hsK := Lib.hid hsK
  (refine lat_late 16 (by rfl) (.bool true) (by kernel_rfl) (fun _ _ _ h => h) (fun wq hSw => ⟨_, _, ?_, hsK.out wq hSw⟩) ?_; focus (go_simp; try with_reducible rfl; done); try simp only [Act.put, List.setIfInBounds_toArray, List.set_cons_zero, List.set_cons_succ])
  (refine lat_now 17 (by rfl) ?_ (by kernel_rfl) (fun _ _ _ h => h) ?_ ?_; rotate_left; (focus (intro wq hSw; have hrd : ∀ b o, b < y3.heap.size → wq.cell? ⟨b, o, none⟩ = y3.cell? ⟨b, o, none⟩ := (fun b o h => Below.cell hSw (p := ⟨b, o, none⟩) h); go_simp; try with_reducible rfl; done)); try simp only [Act.put, List.setIfInBounds_toArray, List.set_cons_zero, List.set_cons_succ])
  (refine lat_now 18 (by rfl) ?_ (by kernel_rfl) (fun _ _ _ h => h) ?_ ?_; rotate_left; (focus (intro wq hSw; have hrd : ∀ b o, b < y3.heap.size → wq.cell? ⟨b, o, none⟩ = y3.cell? ⟨b, o, none⟩ := (fun b o h => Below.cell hSw (p := ⟨b, o, none⟩) h); go_simp; try with_reducible rfl; done)); try simp only [Act.put, List.setIfInBounds_toArray, List.set_cons_zero, List.set_cons_succ])
  (refine lat_late 19 (by rfl) (.bool true) (by kernel_rfl) (fun _ _ _ h => h) (fun wq hSw => ⟨_, _, ?_, lives32_any wq⟩) ?_; focus (go_simp; try with_reducible rfl; done); try simp only [Act.put, List.setIfInBounds_toArray, List.set_cons_zero, List.set_cons_succ])
  (refine lat_now 20 (by rfl) ?_ (by kernel_rfl) (fun _ _ _ h => h) ?_ ?_; rotate_left; (focus (intro wq hSw; have hrd : ∀ b o, b < y3.heap.size → wq.cell? ⟨b, o, none⟩ = y3.cell? ⟨b, o, none⟩ := (fun b o h => Below.cell hSw (p := ⟨b, o, none⟩) h); go_simp; try with_reducible rfl; done)); try simp only [Act.put, List.setIfInBounds_toArray, List.set_cons_zero, List.set_cons_succ])
  (refine lat_now 21 (by rfl) ?_ (by kernel_rfl) (fun _ _ _ h => h) ?_ ?_; rotate_left; (focus (intro wq hSw; have hrd : ∀ b o, b < y3.heap.size → wq.cell? ⟨b, o, none⟩ = y3.cell? ⟨b, o, none⟩ := (fun b o h => Below.cell hSw (p := ⟨b, o, none⟩) h); go_simp; try with_reducible rfl; done)); try simp only [Act.put, List.setIfInBounds_toArray, List.set_cons_zero, List.set_cons_succ])
  refine lat_done (by kernel_rfl) (fun wz hz => ?_) _
  try refine NoPanic.normal ?_
  go_wp2_with fail
  go_ret
  exact ⟨rfl, hB.trans (hz.mono hB.size)⟩
end Go.Proofs.YtecmhakapomepaaGreat

/- config: ConfigForms, the law. -/
namespace Go.Proofs.YtecmhakapomepaaGreat
set_option linter.unusedVariables false
open Go Go.RowKit Go.Maps

theorem forms32_law (as_ id own : Int) (pA : Option Addr) (pn pc : Nat) (P : List PeerV) (vA : Option Addr) (vn vc : Nat) (V : List VipV) (sA : Option Addr) (sn sc : Nat) (S : List SiteV) (rise fall every pat room idle queue dF dS dR dC dH ttl : Int) (as_' id' own' : Int) (pA' : Option Addr) (pn' pc' : Nat) (P' : List PeerV) (vA' : Option Addr) (vn' vc' : Nat) (V' : List VipV) (sA' : Option Addr) (sn' sc' : Nat) (S' : List SiteV) (rise' fall' every' pat' room' idle' queue' dF' dS' dR' dC' dH' ttl' : Int) (A : Option Addr) (n cc : Nat) (l : List UInt8) (w : World) (w1 : (Lit.int .i64 as_).wf = true) (w2 : (Lit.int .u32 id).wf = true) (w3 : (Lit.int .u32 own).wf = true) (hp1 : pn ≤ pc) (hp2 : pc ≤ maxLen) (hp3 : Seen peerK w (fun b => b < w.heap.size) pA pn P) (hv1 : vn ≤ vc) (hv2 : vc ≤ maxLen) (hv3 : Seen vipK w (fun b => b < w.heap.size) vA vn V) (hs1 : sn ≤ sc) (hs2 : sc ≤ maxLen) (hs3 : Seen siteK w (fun b => b < w.heap.size) sA sn S) (w_rise : (Lit.int .i64 rise).wf = true) (w_fall : (Lit.int .i64 fall).wf = true) (w_every : (Lit.int .i64 every).wf = true) (w_pat : (Lit.int .i64 pat).wf = true) (w_room : (Lit.int .i64 room).wf = true) (w_idle : (Lit.int .i64 idle).wf = true) (w_queue : (Lit.int .i64 queue).wf = true) (w_dF : (Lit.int .i64 dF).wf = true) (w_dS : (Lit.int .i64 dS).wf = true) (w_dR : (Lit.int .i64 dR).wf = true) (w_dC : (Lit.int .i64 dC).wf = true) (w_dH : (Lit.int .i64 dH).wf = true) (w_ttl : (Lit.int .i64 ttl).wf = true) (w1' : (Lit.int .i64 as_').wf = true) (w2' : (Lit.int .u32 id').wf = true) (w3' : (Lit.int .u32 own').wf = true) (hp1' : pn' ≤ pc') (hp2' : pc' ≤ maxLen) (hp3' : Seen peerK w (fun b => b < w.heap.size) pA' pn' P') (hv1' : vn' ≤ vc') (hv2' : vc' ≤ maxLen) (hv3' : Seen vipK w (fun b => b < w.heap.size) vA' vn' V') (hs1' : sn' ≤ sc') (hs2' : sc' ≤ maxLen) (hs3' : Seen siteK w (fun b => b < w.heap.size) sA' sn' S') (w_rise' : (Lit.int .i64 rise').wf = true) (w_fall' : (Lit.int .i64 fall').wf = true) (w_every' : (Lit.int .i64 every').wf = true) (w_pat' : (Lit.int .i64 pat').wf = true) (w_room' : (Lit.int .i64 room').wf = true) (w_idle' : (Lit.int .i64 idle').wf = true) (w_queue' : (Lit.int .i64 queue').wf = true) (w_dF' : (Lit.int .i64 dF').wf = true) (w_dS' : (Lit.int .i64 dS').wf = true) (w_dR' : (Lit.int .i64 dR').wf = true) (w_dC' : (Lit.int .i64 dC').wf = true) (w_dH' : (Lit.int .i64 dH').wf = true) (w_ttl' : (Lit.int .i64 ttl').wf = true) (hl : n ≤ cc) (hm : cc ≤ maxLen) (hb : Byt w w.heap.size A n l) :
    Calls Tryz.prog 3 #[.agg #[.int .i64 as_, .int .u32 id, .int .u32 own, .slice pA pn pc, .slice vA vn vc, .slice sA sn sc, .int .i64 rise, .int .i64 fall, .int .i64 every, .int .i64 pat, .int .i64 room, .int .i64 idle, .int .i64 queue, .int .i64 dF, .int .i64 dS, .int .i64 dR, .int .i64 dC, .int .i64 dH, .int .i64 ttl], .agg #[.int .i64 as_', .int .u32 id', .int .u32 own', .slice pA' pn' pc', .slice vA' vn' vc', .slice sA' sn' sc', .int .i64 rise', .int .i64 fall', .int .i64 every', .int .i64 pat', .int .i64 room', .int .i64 idle', .int .i64 queue', .int .i64 dF', .int .i64 dS', .int .i64 dR', .int .i64 dC', .int .i64 dH', .int .i64 ttl'], .slice A n cc] w fun e w' => e = .returned (.bool true) ∧ Below w.heap.size w w' := by
  obtain ⟨c, hc⟩ : ∃ c : CfgV, c = ⟨as_, id, own, pA, pn, pc, P, vA, vn, vc, V, sA, sn, sc, S, rise, fall, every, pat, room, idle, queue, dF, dS, dR, dC, dH, ttl⟩ := ⟨_, rfl⟩
  have e1 : (#[.int .i64 as_, .int .u32 id, .int .u32 own, .slice pA pn pc, .slice vA vn vc, .slice sA sn sc, .int .i64 rise, .int .i64 fall, .int .i64 every, .int .i64 pat, .int .i64 room, .int .i64 idle, .int .i64 queue, .int .i64 dF, .int .i64 dS, .int .i64 dR, .int .i64 dC, .int .i64 dH, .int .i64 ttl] : Array Value) = cfgC c := by rw [hc]; rfl
  rw [e1]
  have h : CfgIn w c := by
    rw [hc]
    exact ⟨isU_wf w2, isU_wf w3, ⟨isI_wf w1, isI_wf w_rise, isI_wf w_fall, isI_wf w_every, isI_wf w_pat, isI_wf w_room, isI_wf w_idle, isI_wf w_queue⟩, ⟨isI_wf w_dF, isI_wf w_dS, isI_wf w_dR, isI_wf w_dC, isI_wf w_dH, isI_wf w_ttl⟩, ⟨⟨hp1, hp2⟩, ⟨hv1, hv2⟩, ⟨hs1, hs2⟩⟩, hp3, hv3, hs3⟩
  clear hc e1
  obtain ⟨d, hc'⟩ : ∃ c : CfgV, c = ⟨as_', id', own', pA', pn', pc', P', vA', vn', vc', V', sA', sn', sc', S', rise', fall', every', pat', room', idle', queue', dF', dS', dR', dC', dH', ttl'⟩ := ⟨_, rfl⟩
  have e1' : (#[.int .i64 as_', .int .u32 id', .int .u32 own', .slice pA' pn' pc', .slice vA' vn' vc', .slice sA' sn' sc', .int .i64 rise', .int .i64 fall', .int .i64 every', .int .i64 pat', .int .i64 room', .int .i64 idle', .int .i64 queue', .int .i64 dF', .int .i64 dS', .int .i64 dR', .int .i64 dC', .int .i64 dH', .int .i64 ttl'] : Array Value) = cfgC d := by rw [hc']; rfl
  rw [e1']
  have h' : CfgIn w d := by
    rw [hc']
    exact ⟨isU_wf w2', isU_wf w3', ⟨isI_wf w1', isI_wf w_rise', isI_wf w_fall', isI_wf w_every', isI_wf w_pat', isI_wf w_room', isI_wf w_idle', isI_wf w_queue'⟩, ⟨isI_wf w_dF', isI_wf w_dS', isI_wf w_dR', isI_wf w_dC', isI_wf w_dH', isI_wf w_ttl'⟩, ⟨⟨hp1', hp2'⟩, ⟨hv1', hv2'⟩, ⟨hs1', hs2'⟩⟩, hp3', hv3', hs3'⟩
  clear hc' e1'
  exact forms_core w c d A n cc l h h' hb
end Go.Proofs.YtecmhakapomepaaGreat
