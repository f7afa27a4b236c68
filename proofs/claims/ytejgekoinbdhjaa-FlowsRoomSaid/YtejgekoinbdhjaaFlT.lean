/- flows: the document's table that has nothing; rows in its form. -/
import Derived.Test.YtejgekoinbdhjaaFlS
namespace Go.Proofs.Ytejgekoinbdhjaa
set_option linter.unusedVariables false
open Go Go.RowKit Go.Maps

def docC (now : Int) : Array Value := #[.int .i64 1, .int .i64 1, .int .i64 now, .slice none 0 0, .int .i64 0, .int .i64 0]
theorem got_entry29 : (Try.prog.info? 184).map (·.size) = some 7 := by kernel_rfl
theorem en_ok29 : ElemOk Try.prog 189 184 enK.size 48 (enA ze) := ⟨Try.underlying189, by kernel_rfl, rfl, enK.pos⟩
set_option maxRecDepth 100000 in
theorem ref29_new (w : World) : Calls Try.prog 51 #[.int .i64 1, .int .i64 1] w fun e w' => e = .returned (.pointer (some ⟨w.heap.size, 0, none⟩)) ∧ Blk w' w.heap.size 193 (docC 0) ∧ Below w.heap.size w w' := by
  have hB := (Below.refl w.heap.size w).alloc (Nat.le_refl _) (.cells (docC 0) 193)
  have hq := Blk.new w 193 (docC 0)
  go_enter Try.func51, Try.ntmps51
  go_wp2_with fail
  go_ret
  exact ⟨rfl, hq, hB⟩
set_option maxRecDepth 100000 in
theorem ref29_time (w : World) (d : Nat) (now t : Int) (h : Blk w d 193 (docC now)) : Calls Try.prog 171 #[.pointer (some ⟨d, 0, none⟩), .int .i64 t] w fun e w' => e = .returned (.int .i64 (max now t)) ∧ Blk w' d 193 (docC (max now t)) ∧ Chg w w' (fun k => k = d) := by
  have c2 : w.cell? ⟨d, 2, none⟩ = some (.int .i64 now) := h.cellv 2 rfl
  have f2 := h.frozen 2
  have lt := h.lt
  obtain ⟨h1, g1⟩ := blk_store h 2 (.int .i64 t)
  have h1' : Blk (w.setCell ⟨d, 2, none⟩ (.int .i64 t)) d 193 (docC t) := h1
  have k2 : (w.setCell ⟨d, 2, none⟩ (.int .i64 t)).cell? ⟨d, 2, none⟩ = some (.int .i64 t) := h1'.cellv 2 rfl
  have klt := h1'.lt
  by_cases hlt : now < t
  · have hm : max now t = t := by omega
    rw [hm]
    replace h1' := Lib.hid h1'
    replace g1 := Lib.hid g1
    replace hm := Lib.hid hm
    clear h1
    go_enter Try.func171, Try.ntmps171
    go_wp2_with fail
    go_ret
    exact ⟨rfl, h1'.out, Chg.of_grown g1.out rfl⟩
  · have hm : max now t = now := by omega
    rw [hm]
    have dl : decide (now < t) = false := by simpa using hlt
    replace hm := Lib.hid hm
    clear h1 h1' g1 k2 klt
    go_enter Try.func171, Try.ntmps171
    go_wp2_with fail
    go_ret
    exact ⟨rfl, h, Chg.refl _ _⟩
set_option maxRecDepth 100000 in
theorem ref29_find (w : World) (d : Nat) (now : Int) (f : Flo) (h : Blk w d 193 (docC now)) : Calls Try.prog 172 #[.pointer (some ⟨d, 0, none⟩), .agg #[.int .i64 f.pr, .int .u32 f.src, .int .u32 f.dst, .int .i64 f.sp, .int .i64 f.dp]] w fun e w' => e = .returned (.int .i64 (-1)) ∧ Below w.heap.size w w' := by
  have hB := (Below.refl w.heap.size w).alloc (Nat.le_refl _) (.cells #[.int .i64 f.pr, .int .u32 f.src, .int .u32 f.dst, .int .i64 f.sp, .int .i64 f.dp] 57)
  have h1 := h.alloc (.cells #[.int .i64 f.pr, .int .u32 f.src, .int .u32 f.dst, .int .i64 f.sp, .int .i64 f.dp] 57)
  go_enter Try.func172, Try.ntmps172
  go_upto_region 1 with (fail)
  generalize w.alloc (.cells #[.int .i64 f.pr, .int .u32 f.src, .int .u32 f.dst, .int .i64 f.sp, .int .i64 f.dp] 57) = w1 at *
  have c3 : w1.cell? ⟨d, 3, none⟩ = some (.slice none 0 0) := h1.cellv 3 rfl
  have lt := h1.lt
  go_wp2_with fail
  refine wp_loop_rounds 1 ?_
  rw [rounds_succ]
  go_wp2_with fail
  go_ret
  exact ⟨rfl, hB⟩
set_option maxRecDepth 100000 in
theorem ref29_get (w : World) (d : Nat) (now t : Int) (f : Flo) (h : Blk w d 193 (docC now)) : Calls Try.prog 126 #[.pointer (some ⟨d, 0, none⟩), .agg #[.int .i64 f.pr, .int .u32 f.src, .int .u32 f.dst, .int .i64 f.sp, .int .i64 f.dp], .int .i64 t] w fun e w' => e = .returned (.tuple #[.int .i64 0, .bool false]) ∧ Chg w w' (fun k => k = d) := by
  have hB := (Below.refl w.heap.size w).alloc (Nat.le_refl _) (.cells #[.int .i64 f.pr, .int .u32 f.src, .int .u32 f.dst, .int .i64 f.sp, .int .i64 f.dp] 57)
  have h1 := h.alloc (.cells #[.int .i64 f.pr, .int .u32 f.src, .int .u32 f.dst, .int .i64 f.sp, .int .i64 f.dp] 57)
  have hf := Blk.new w 57 #[.int .i64 f.pr, .int .u32 f.src, .int .u32 f.dst, .int .i64 f.sp, .int .i64 f.dp]
  have lt0 := h.lt
  go_enter Try.func126, Try.ntmps126
  go_upto_region 1 with (fail)
  generalize w.alloc (.cells #[.int .i64 f.pr, .int .u32 f.src, .int .u32 f.dst, .int .i64 f.sp, .int .i64 f.dp] 57) = w1 at *
  go_upto_region 2 with (go_at_call 171; refine (ref29_time w1 d now t h1).mono ?_; rintro e w2 ⟨rfl, h2, hC2⟩)
  have hf2 := hC2.blk hf (by omega)
  have y0 : w2.cell? ⟨w.heap.size, 0, none⟩ = some (.int .i64 f.pr) := hf2.cellv 0 rfl
  have y1 : w2.cell? ⟨w.heap.size, 1, none⟩ = some (.int .u32 f.src) := hf2.cellv 1 rfl
  have y2 : w2.cell? ⟨w.heap.size, 2, none⟩ = some (.int .u32 f.dst) := hf2.cellv 2 rfl
  have y3 : w2.cell? ⟨w.heap.size, 3, none⟩ = some (.int .i64 f.sp) := hf2.cellv 3 rfl
  have y4 : w2.cell? ⟨w.heap.size, 4, none⟩ = some (.int .i64 f.dp) := hf2.cellv 4 rfl
  have ltf := hf2.lt
  go_wp2_with (go_at_call 172; refine (ref29_find w2 d _ f h2).mono ?_; rintro e w3 ⟨rfl, hb3⟩)
  go_ret2
  exact ⟨rfl, ((Chg.of_below hB).trans hC2 (fun _ _ q => q)).trans (Chg.of_below (X := fun _ => False) hb3) (fun _ _ q => q.elim)⟩
set_option maxRecDepth 100000 in
theorem ref29_peek (w : World) (d : Nat) (now : Int) (f : Flo) (h : Blk w d 193 (docC now)) : Calls Try.prog 127 #[.pointer (some ⟨d, 0, none⟩), .agg #[.int .i64 f.pr, .int .u32 f.src, .int .u32 f.dst, .int .i64 f.sp, .int .i64 f.dp]] w fun e w' => e = .returned (.tuple #[enA ze, .bool false]) ∧ Below w.heap.size w w' := by
  have hB := ((Below.refl w.heap.size w).alloc (Nat.le_refl _) (.cells #[.int .i64 f.pr, .int .u32 f.src, .int .u32 f.dst, .int .i64 f.sp, .int .i64 f.dp] 57)).alloc (by simp) (.cells #[.int .i64 0, .int .u32 0, .int .u32 0, .int .i64 0, .int .i64 0, .int .i64 0, .int .i64 0] 184)
  have h1 := (h.alloc (.cells #[.int .i64 f.pr, .int .u32 f.src, .int .u32 f.dst, .int .i64 f.sp, .int .i64 f.dp] 57)).alloc (.cells #[.int .i64 0, .int .u32 0, .int .u32 0, .int .i64 0, .int .i64 0, .int .i64 0, .int .i64 0] 184)
  have hf := (Blk.new w 57 #[.int .i64 f.pr, .int .u32 f.src, .int .u32 f.dst, .int .i64 f.sp, .int .i64 f.dp]).alloc (.cells #[.int .i64 0, .int .u32 0, .int .u32 0, .int .i64 0, .int .i64 0, .int .i64 0, .int .i64 0] 184)
  have hq := Blk.new (w.alloc (.cells #[.int .i64 f.pr, .int .u32 f.src, .int .u32 f.dst, .int .i64 f.sp, .int .i64 f.dp] 57)) 184 #[.int .i64 0, .int .u32 0, .int .u32 0, .int .i64 0, .int .i64 0, .int .i64 0, .int .i64 0]
  rw [show (w.alloc (.cells #[.int .i64 f.pr, .int .u32 f.src, .int .u32 f.dst, .int .i64 f.sp, .int .i64 f.dp] 57)).heap.size = w.heap.size + 1 by simp] at hq
  go_enter Try.func127, Try.ntmps127
  go_upto_region 1 with (fail)
  generalize (w.alloc (.cells #[.int .i64 f.pr, .int .u32 f.src, .int .u32 f.dst, .int .i64 f.sp, .int .i64 f.dp] 57)).alloc (.cells #[.int .i64 0, .int .u32 0, .int .u32 0, .int .i64 0, .int .i64 0, .int .i64 0, .int .i64 0] 184) = w2 at *
  have y0 : w2.cell? ⟨w.heap.size, 0, none⟩ = some (.int .i64 f.pr) := hf.cellv 0 rfl
  have y1 : w2.cell? ⟨w.heap.size, 1, none⟩ = some (.int .u32 f.src) := hf.cellv 1 rfl
  have y2 : w2.cell? ⟨w.heap.size, 2, none⟩ = some (.int .u32 f.dst) := hf.cellv 2 rfl
  have y3 : w2.cell? ⟨w.heap.size, 3, none⟩ = some (.int .i64 f.sp) := hf.cellv 3 rfl
  have y4 : w2.cell? ⟨w.heap.size, 4, none⟩ = some (.int .i64 f.dp) := hf.cellv 4 rfl
  have ltf := hf.lt
  go_upto_region 3 with (go_at_call 172; refine (ref29_find w2 d _ f h1).mono ?_; rintro e w3 ⟨rfl, hb3⟩)
  have hq3 := hq.below hb3 hq.lt
  have hB3 := hB.trans (hb3.mono hB.size)
  go_wp2_with (refine wpList_store_blk rfl hq3 184 (.tmp 4) (.tmp 12) rfl rfl rfl rfl got_entry29 (by simp [Value.oneCell']) ?_; intro w4 hq4 hg4)
  try rw [Exit.noGoto_ret]
  refine bodyPost_ret (results_ct rfl _ rfl (load_blk hq4 Try.underlying184 rfl got_entry29)) rfl ?_
  exact ⟨rfl, below_own hB3 hg4 hB3.size (by omega)⟩
set_option maxRecDepth 100000 in
theorem ref29_drop (w : World) (d : Nat) (now : Int) (f : Flo) (h : Blk w d 193 (docC now)) : Calls Try.prog 128 #[.pointer (some ⟨d, 0, none⟩), .agg #[.int .i64 f.pr, .int .u32 f.src, .int .u32 f.dst, .int .i64 f.sp, .int .i64 f.dp]] w fun e w' => e = .returned (.bool false) ∧ Below w.heap.size w w' := by
  have hB := (Below.refl w.heap.size w).alloc (Nat.le_refl _) (.cells #[.int .i64 f.pr, .int .u32 f.src, .int .u32 f.dst, .int .i64 f.sp, .int .i64 f.dp] 57)
  have h1 := h.alloc (.cells #[.int .i64 f.pr, .int .u32 f.src, .int .u32 f.dst, .int .i64 f.sp, .int .i64 f.dp] 57)
  have hf := Blk.new w 57 #[.int .i64 f.pr, .int .u32 f.src, .int .u32 f.dst, .int .i64 f.sp, .int .i64 f.dp]
  go_enter Try.func128, Try.ntmps128
  go_upto_region 1 with (fail)
  generalize w.alloc (.cells #[.int .i64 f.pr, .int .u32 f.src, .int .u32 f.dst, .int .i64 f.sp, .int .i64 f.dp] 57) = w2 at *
  have y0 : w2.cell? ⟨w.heap.size, 0, none⟩ = some (.int .i64 f.pr) := hf.cellv 0 rfl
  have y1 : w2.cell? ⟨w.heap.size, 1, none⟩ = some (.int .u32 f.src) := hf.cellv 1 rfl
  have y2 : w2.cell? ⟨w.heap.size, 2, none⟩ = some (.int .u32 f.dst) := hf.cellv 2 rfl
  have y3 : w2.cell? ⟨w.heap.size, 3, none⟩ = some (.int .i64 f.sp) := hf.cellv 3 rfl
  have y4 : w2.cell? ⟨w.heap.size, 4, none⟩ = some (.int .i64 f.dp) := hf.cellv 4 rfl
  have ltf := hf.lt
  go_wp2_with (go_at_call 172; refine (ref29_find w2 d _ f h1).mono ?_; rintro e w3 ⟨rfl, hb3⟩)
  go_ret
  exact ⟨rfl, hB.trans (hb3.mono hB.size)⟩
set_option maxRecDepth 100000 in
theorem ref29_purge (w : World) (d : Nat) (now z : Int) (h : Blk w d 193 (docC now)) : Calls Try.prog 129 #[.pointer (some ⟨d, 0, none⟩), .int .i64 z] w fun e w' => e = .returned (.int .i64 0) ∧ Chg w w' (fun k => k = d) := by
  have c3 : w.cell? ⟨d, 3, none⟩ = some (.slice none 0 0) := h.cellv 3 rfl
  have f3 := h.frozen 3
  have lt := h.lt
  obtain ⟨h1, g1⟩ := blk_store h 3 (.slice none 0 0)
  replace g1 := Lib.hid g1
  clear h1
  go_enter Try.func129, Try.ntmps129
  go_wp2_with fail
  refine wp_loop_rounds 1 ?_
  rw [rounds_succ]
  go_wp2_with fail
  go_ret
  exact ⟨rfl, Chg.of_grown g1.out rfl⟩
set_option maxRecDepth 100000 in
theorem ref29_expire (w : World) (d : Nat) (now t : Int) (h : Blk w d 193 (docC now)) : Calls Try.prog 132 #[.pointer (some ⟨d, 0, none⟩), .int .i64 t] w fun e w' => e = .returned (.slice none 0 0) ∧ Chg w w' (fun k => k = d) := by
  go_enter Try.func132, Try.ntmps132
  go_upto_region 2 with (go_at_call 171; refine (ref29_time w d now t h).mono ?_; rintro e w2 ⟨rfl, h2, hC2⟩)
  have c3 : w2.cell? ⟨d, 3, none⟩ = some (.slice none 0 0) := h2.cellv 3 rfl
  have f3 := h2.frozen 3
  have lt := h2.lt
  obtain ⟨h3, g3⟩ := blk_store h2 3 (.slice none 0 0)
  replace g3 := Lib.hid g3
  clear h3
  go_wp2_with fail
  refine wp_loop_rounds 1 ?_
  rw [rounds_succ]
  go_wp2_with fail
  go_ret
  exact ⟨rfl, hC2.trans (Chg.of_grown (X := fun k => k = d) g3.out rfl) (fun _ _ q => q)⟩
set_option maxRecDepth 100000 in
theorem same29_nil (w : World) (A : Option Addr) (n c : Nat) (hn : n ≤ 1000000) :
    Calls Try.prog 130 #[.slice A n c, .slice none 0 0] w fun e w' => (∃ b, e = .returned (.bool b)) ∧ w = w' := by
  go_enter Try.func130, Try.ntmps130
  by_cases h0 : n = 0
  · subst h0
    go_wp2_with fail
    refine wp_loop_rounds 1 ?_
    rw [rounds_succ]
    go_wp2_with fail
    go_ret
    exact ⟨⟨_, rfl⟩, rfl⟩
  · have hb : ((n : Int) != 0) = true := by rw [bne_iff_ne]; omega
    go_wp2_with fail
    go_ret
    exact ⟨⟨_, rfl⟩, rfl⟩
theorem en_cells {w : World} {S : Nat → Prop} {A : Option Addr} {n : Nat} {L : List EnV} {k : Nat} (h : Seen enK w S A n L) (hk : k < n) :
    ∃ b off x, A = some ⟨b, off, none⟩ ∧ S b ∧ L[k]? = some x ∧ w.cell? ⟨b, off + k * 7, none⟩ = some (.int .i64 x.fl.pr) ∧ w.cell? ⟨b, off + k * 7 + 1, none⟩ = some (.int .u32 x.fl.src) ∧ w.cell? ⟨b, off + k * 7 + 2, none⟩ = some (.int .u32 x.fl.dst) ∧ w.cell? ⟨b, off + k * 7 + 3, none⟩ = some (.int .i64 x.fl.sp) ∧ w.cell? ⟨b, off + k * 7 + 4, none⟩ = some (.int .i64 x.fl.dp) ∧ w.cell? ⟨b, off + k * 7 + 5, none⟩ = some (.int .i64 x.be) ∧ w.cell? ⟨b, off + k * 7 + 6, none⟩ = some (.int .i64 x.la) := by
  have hlt : k < L.length := by rw [h.1]; exact hk
  have hr := List.getElem?_eq_getElem hlt
  obtain ⟨b, off, e, hb, hc⟩ := h.cell hr
  exact ⟨b, off, _, e, hb, hr, hc 0 (by decide), hc 1 (by decide), hc 2 (by decide), hc 3 (by decide), hc 4 (by decide), hc 5 (by decide), hc 6 (by decide)⟩
set_option maxRecDepth 100000 in
set_option maxHeartbeats 4000000 in
theorem plain29_any (w : World) (S : Nat → Prop) (A : Option Addr) (n c : Nat) (L : List EnV) (hS : Seen enK w S A n L) (hSb : ∀ b, S b → b < w.heap.size) (hn : n ≤ 1000000) :
    Calls Try.prog 131 #[.slice A n c] w fun e w' => ∃ A' c', e = .returned (.slice A' n c') ∧ Below w.heap.size w w' := by
  have hl := Lib.hid hS.1
  go_enter Try.func131, Try.ntmps131
  go_wp2_with fail
  go_loopw [3, 8] (fun v i wr => ∃ (k : Nat) (M : List EnV), k ≤ n ∧ i = .int .i64 (k : Int) ∧ M.length = k ∧ Rows enK wr w.heap.size w.heap.size 184 v M ∧ Below w.heap.size w wr) (fun _ i _ => n - (intOf i).toNat)
  case atStart => exact ⟨0, [], Nat.zero_le _, rfl, rfl, Rows.nil _ _ _ _, Below.refl _ _⟩
  case round =>
  obtain ⟨k, M, hk, rfl, hM, hrow, hB⟩ := hrel
  have hz := hB.size
  replace hM := Lib.hid hM
  by_cases hlt : k < n
  · obtain ⟨bb, off, x, rfl, hb1, hxk, e0, e1, e2, e3, e4, e5, e6⟩ := en_cells (hS.below hB hSb) hlt
    have ltb : bb < wr.heap.size := Nat.lt_of_lt_of_le (hSb _ hb1) hz
    have hki : (k : Int) < n := by omega
    have hb2 := (Below.refl wr.heap.size wr).alloc (Nat.le_refl _) (.cells #[.int .i64 (x).fl.pr, .int .u32 (x).fl.src, .int .u32 (x).fl.dst, .int .i64 (x).fl.sp, .int .i64 (x).fl.dp, .int .i64 (x).be, .int .i64 (x).la] 62)
    have hq2 := Blk.new wr 62 #[.int .i64 (x).fl.pr, .int .u32 (x).fl.src, .int .u32 (x).fl.dst, .int .i64 (x).fl.sp, .int .i64 (x).fl.dp, .int .i64 (x).be, .int .i64 (x).la]
    have hrow2 := hrow.alloc (.cells #[.int .i64 (x).fl.pr, .int .u32 (x).fl.src, .int .u32 (x).fl.dst, .int .i64 (x).fl.sp, .int .i64 (x).fl.dp, .int .i64 (x).be, .int .i64 (x).la] 62)
    have hB2 := hB.alloc hz (.cells #[.int .i64 (x).fl.pr, .int .u32 (x).fl.src, .int .u32 (x).fl.dst, .int .i64 (x).fl.sp, .int .i64 (x).fl.dp, .int .i64 (x).be, .int .i64 (x).la] 62)
    go_upto_region 5 with (fail)
    clear e0 e1 e2 e3 e4 e5 e6
    generalize wr.alloc (.cells #[.int .i64 (x).fl.pr, .int .u32 (x).fl.src, .int .u32 (x).fl.dst, .int .i64 (x).fl.sp, .int .i64 (x).fl.dp, .int .i64 (x).be, .int .i64 (x).la] 62) = w2 at *
    have e0 : w2.cell? ⟨wr.heap.size, 0, none⟩ = some (.int .i64 x.fl.pr) := hq2.cellv 0 rfl
    have e1 : w2.cell? ⟨wr.heap.size, 1, none⟩ = some (.int .u32 x.fl.src) := hq2.cellv 1 rfl
    have e2 : w2.cell? ⟨wr.heap.size, 2, none⟩ = some (.int .u32 x.fl.dst) := hq2.cellv 2 rfl
    have e3 : w2.cell? ⟨wr.heap.size, 3, none⟩ = some (.int .i64 x.fl.sp) := hq2.cellv 3 rfl
    have e4 : w2.cell? ⟨wr.heap.size, 4, none⟩ = some (.int .i64 x.fl.dp) := hq2.cellv 4 rfl
    have e5 : w2.cell? ⟨wr.heap.size, 5, none⟩ = some (.int .i64 x.be) := hq2.cellv 5 rfl
    have e6 : w2.cell? ⟨wr.heap.size, 6, none⟩ = some (.int .i64 x.la) := hq2.cellv 6 rfl
    have lt2 := hq2.lt
    have hz2 := hB2.size
    have hone : Seen enK (w2.alloc (.cells #[.int .i64 (x).fl.pr, .int .u32 (x).fl.src, .int .u32 (x).fl.dst, .int .i64 (x).fl.sp, .int .i64 (x).fl.dp, .int .i64 (x).be, .int .i64 (x).la] 184)) (fun _ => True) (some ⟨w2.heap.size, 0, none⟩) 1 [x] := seen_one (R := enK) (S := fun _ => False) (S' := fun _ => True) w2 184 x #[.int .i64 (x).fl.pr, .int .u32 (x).fl.src, .int .u32 (x).fl.dst, .int .i64 (x).fl.sp, .int .i64 (x).fl.dp, .int .i64 (x).be, .int .i64 (x).la] rfl trivial (fun _ h => h.elim) trivial (fun _ h => h.elim)
    have hrow3 := hrow2.alloc (.cells #[.int .i64 (x).fl.pr, .int .u32 (x).fl.src, .int .u32 (x).fl.dst, .int .i64 (x).fl.sp, .int .i64 (x).fl.dp, .int .i64 (x).be, .int .i64 (x).la] 184)
    have hB3 := hB2.alloc hz2 (.cells #[.int .i64 (x).fl.pr, .int .u32 (x).fl.src, .int .u32 (x).fl.dst, .int .i64 (x).fl.sp, .int .i64 (x).fl.dp, .int .i64 (x).be, .int .i64 (x).la] 184)
    have hz3 := hB3.size
    have hml : M.length ≤ 1000000 := by have := hM.out; omega
    go_wp2_with (at_builtin; refine wpList_rows en_ok29 rfl (.tmp 12) (.tmp 14) rfl hrow3 rfl rfl hone (fun _ _ => trivial) (by unfold maxLen; omega) (by omega) hz3 ?_; intro v6 w6 hrow6 hg6)
    exact ⟨⟨k + 1, M ++ [x], by omega, by go_num, by simp [hM.out], hrow6, hB3.grown hg6 hz3 (fun j e => (hrow3.1.lt j e).1)⟩, by simp [intOf]; omega⟩
  · obtain rfl : k = n := by omega
    obtain ⟨A9, c9, e9, -⟩ := hrow.1.any
    rw [hM.out] at e9
    subst e9
    go_wp2_with fail
    go_ret
    exact ⟨_, _, rfl, hB⟩
end Go.Proofs.Ytejgekoinbdhjaa
