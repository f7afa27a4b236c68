/- notice: the table of meanings; of, Name, Subs, and the document's. -/
import Derived.Test.YtfnclmacodchfaaDoorNoB
import Derived.Test.YtfnclmacodchfaaDoorRows
import Derived.Lib.LaidU8
import Derived.MakeChecks
namespace Go.Proofs.YtfnclmacodchfaaDoor
set_option linter.unusedVariables false
open Go Go.RowKit

/-- what the row lists. -/
def laidL : List (String × DataW Unit) := [("math/bits.deBruijn32tab", Rows.laid_math_bits_deBruijn32tab), ("math/bits.deBruijn64tab", Rows.laid_math_bits_deBruijn64tab), ("internal/strconv.uint64pow10", Rows.laid_internal_strconv_uint64pow10), ("fairway/notice.meanings", Rows.laid_fairway_notice_meanings)]
theorem gMean : Tryd.prog.globalNamed "fairway/notice.meanings" = some 0 := by kernel_rfl
theorem tMean : (Tryd.prog.globals[0]?).map (·.type) = some 49 := by kernel_rfl
/-- a code's name and its subs. -/
def nmB : Nat → List UInt8
  | 0 => [117, 110, 107, 110, 111, 119, 110]
  | 1 => [104, 101, 97, 100, 101, 114]
  | 2 => [111, 112, 101, 110]
  | 3 => [117, 112, 100, 97, 116, 101]
  | 4 => [104, 111, 108, 100]
  | 5 => [102, 115, 109]
  | _ => [99, 101, 97, 115, 101]
def nmS : Nat → Int
  | 0 => 0
  | 1 => 3
  | 2 => 6
  | 3 => 11
  | 4 => 0
  | 5 => 0
  | _ => 8
/-- the table lies there. -/
def Mean (w : World) : Prop := 0 < w.heap.size ∧ ∀ k, k < 7 → w.cell? ⟨0, k * 2, none⟩ = some (.string (strB (nmB k))) ∧ w.cell? ⟨0, k * 2 + 1, none⟩ = some (.int .i64 (nmS k))
theorem Mean.below {w w' : World} (h : Mean w) (hb : Below w.heap.size w w') : Mean w' :=
  ⟨Nat.lt_of_lt_of_le h.1 hb.size, fun k hk => ⟨(hb.cell (p := ⟨0, k * 2, none⟩) h.1).trans (h.2 k hk).1, (hb.cell (p := ⟨0, k * 2 + 1, none⟩) h.1).trans (h.2 k hk).2⟩⟩
theorem mean_of {W : World} (h : laidMetH Tryd.prog laidL W) : Mean W := by
  rw [MakeChecks.laidMetH_plain _ _ _ (by kernel_rfl)] at h
  obtain ⟨g, t, cs, fuel, p, hg, ht, hv, hd⟩ := Lib.laidMet.reads h (n := "fairway/notice.meanings") (d := Rows.laid_fairway_notice_meanings) (by simp [laidL])
  obtain rfl := Option.some.inj (gMean.symm.trans hg)
  obtain rfl := Option.some.inj (tMean.symm.trans ht)
  obtain ⟨xs, m, rfl, hx, hlen, hn, hel⟩ := DataW.trod_array Tryd.underlying49 hd
  have c40 : Tryd.prog.cellsOf 40 = 2 := by kernel_rfl
  have hcell := fun i => World.var?_cell hg hv i
  have hxs := congrArg Prod.fst hx
  simp only [Rows.laid_fairway_notice_meanings, DataW.agg.injEq] at hxs
  have hkx : ∀ k, k < 7 → ∃ x, xs[k]? = some x ∧ x.1 = .agg [.lit (.string (nmB k)), .lit (.int .i64 (nmS k))] := fun k hk => by
    match xs, hn, hxs with
    | [x0, x1, x2, x3, x4, x5, x6], _, hxs =>
      simp only [List.map_cons, List.map_nil, List.cons.injEq, and_true] at hxs
      obtain ⟨h0, h1, h2, h3, h4, h5, h6⟩ := hxs
      match k, hk with
      | 0, _ => exact ⟨x0, rfl, h0.symm⟩
      | 1, _ => exact ⟨x1, rfl, h1.symm⟩
      | 2, _ => exact ⟨x2, rfl, h2.symm⟩
      | 3, _ => exact ⟨x3, rfl, h3.symm⟩
      | 4, _ => exact ⟨x4, rfl, h4.symm⟩
      | 5, _ => exact ⟨x5, rfl, h5.symm⟩
      | 6, _ => exact ⟨x6, rfl, h6.symm⟩
  have c9 : Tryd.prog.cellsOf 9 = 1 := by kernel_rfl
  have c3 : Tryd.prog.cellsOf 3 = 1 := by kernel_rfl
  have key : ∀ k, k < 7 → cs.toList[k * 2]? = some (.string (strB (nmB k))) ∧ cs.toList[k * 2 + 1]? = some (.int .i64 (nmS k)) := fun k hk => by
    have h1 := hel k hk
    rw [c40] at h1
    obtain ⟨x, hx1, hx2⟩ := hkx k hk
    rw [hx1] at h1
    obtain ⟨y0, y1, q, e, _, hy0, hy1⟩ := Go.ChangeShapes.trod_struct2 Tryd.underlying40 h1
    rw [e] at hx2
    simp only [DataW.agg.injEq, List.cons.injEq, and_true] at hx2
    simp only [c9, c3, List.drop_zero] at hy0 hy1
    obtain ⟨s, e1, e2, _⟩ := DataW.trod_string Tryd.underlying9 hy0
    obtain ⟨z, e3, e4, _⟩ := DataW.trod_int Tryd.underlying3 hy1
    rw [e2] at hx2
    rw [e4] at hx2
    simp only [DataW.lit.injEq, Lit.string.injEq, Lit.int.injEq, true_and] at hx2
    obtain ⟨hs, hz⟩ := hx2
    subst hz
    have g1 := congrArg (·[0]?) e1
    have g3 := congrArg (·[0]?) e3
    simp [List.getElem?_drop] at g1 g3
    refine ⟨?_, ?_⟩
    · rw [Array.getElem?_toList, g1]
      congr 2
      unfold strB
      rw [← hs]
    · rw [Array.getElem?_toList]; exact g3
  have hsz : 0 < W.heap.size := by
    have := (key 0 (by omega)).2
    have h9 := hcell 1
    rw [← Array.getElem?_toList, show (1 : Nat) = 0 * 2 + 1 from rfl, this] at h9
    have := lt_of_cell h9
    simpa using this
  refine ⟨hsz, fun k hk => ⟨?_, ?_⟩⟩
  · rw [hcell, ← Array.getElem?_toList]; exact (key k hk).1
  · rw [hcell, ← Array.getElem?_toList]; exact (key k hk).2
theorem fld0 (s : ByteArray) (z : Int) (w : World) : (Instr.field 40 (.agg #[.string s, .int .i64 z]) 0).run Tryd.prog w = .ok (.string s) w := by kernel_rfl
theorem fld1 (s : ByteArray) (z : Int) (w : World) : (Instr.field 40 (.agg #[.string s, .int .i64 z]) 1).run Tryd.prog w = .ok (.int .i64 z) w := by kernel_rfl
def idN (cd : Int) : Nat := if 0 ≤ cd ∧ cd < 7 then cd.toNat else 0
set_option maxRecDepth 100000 in
set_option maxHeartbeats 4000000 in
theorem of_any (w : World) (hM : Mean w) (cd : Int) : Calls Tryd.prog 25 #[.int .i64 cd] w fun e w' => e = .returned (.agg #[.string (strB (nmB (idN cd))), .int .i64 (nmS (idN cd))]) ∧ Below w.heap.size w w' := by
  have hi : (Tryd.prog.info? 40).map (·.size) = some 2 := by kernel_rfl
  go_enter Tryd.func25, Tryd.ntmps25
  have hB := (Below.refl w.heap.size w).alloc (Nat.le_refl _) (.cells #[.string ⟨#[]⟩, .int .i64 0] 40)
  have hr := Blk.new w 40 #[.string ⟨#[]⟩, .int .i64 0]
  have hM1 := hM.below hB
  go_upto_region 1 with (fail)
  generalize w.alloc (.cells #[.string ⟨#[]⟩, .int .i64 0] 40) = w1 at *
  have h0 := hM1.1
  by_cases hlo : cd < 0
  · have e9 : idN cd = 0 := by unfold idN; rw [if_neg (by omega)]
    have c0 : w1.cell? ⟨0, 0, none⟩ = some (.string (strB (nmB 0))) := (hM1.2 0 (by omega)).1
    have c1 : w1.cell? ⟨0, 1, none⟩ = some (.int .i64 (nmS 0)) := (hM1.2 0 (by omega)).2
    replace e9 := Lib.hid e9
    go_wp2_with (refine wpList_store_blk rfl hr 40 (.tmp 2) (.tmp 10) rfl rfl rfl rfl hi (by simp [Value.oneCell']) ?_; intro w3 hr3 hg3)
    try rw [Exit.noGoto_ret]
    refine bodyPost_ret (results_c rfl _ rfl (load_blk hr3 Tryd.underlying40 rfl hi)) rfl ?_
    exact ⟨by rw [e9.out], below_own hB hg3 hB.size (Nat.le_refl _)⟩
  by_cases hhi : 7 ≤ cd
  · have e9 : idN cd = 0 := by unfold idN; rw [if_neg (by omega)]
    have c0 : w1.cell? ⟨0, 0, none⟩ = some (.string (strB (nmB 0))) := (hM1.2 0 (by omega)).1
    have c1 : w1.cell? ⟨0, 1, none⟩ = some (.int .i64 (nmS 0)) := (hM1.2 0 (by omega)).2
    replace e9 := Lib.hid e9
    go_wp2_with (refine wpList_store_blk rfl hr 40 (.tmp 2) (.tmp 10) rfl rfl rfl rfl hi (by simp [Value.oneCell']) ?_; intro w3 hr3 hg3)
    try rw [Exit.noGoto_ret]
    refine bodyPost_ret (results_c rfl _ rfl (load_blk hr3 Tryd.underlying40 rfl hi)) rfl ?_
    exact ⟨by rw [e9.out], below_own hB hg3 hB.size (Nat.le_refl _)⟩
  have hc : cd = 0 ∨ cd = 1 ∨ cd = 2 ∨ cd = 3 ∨ cd = 4 ∨ cd = 5 ∨ cd = 6 := by omega
  clear hlo hhi
  rcases hc with rfl | rfl | rfl | rfl | rfl | rfl | rfl
  · have e9 : idN 0 = 0 := rfl
    have c0 : w1.cell? ⟨0, 0, none⟩ = some (.string (strB (nmB 0))) := (hM1.2 0 (by omega)).1
    have c1 : w1.cell? ⟨0, 1, none⟩ = some (.int .i64 (nmS 0)) := (hM1.2 0 (by omega)).2
    replace e9 := Lib.hid e9
    go_wp2_with (refine wpList_store_blk rfl hr 40 (.tmp 2) (.tmp 13) rfl rfl rfl rfl hi (by simp [Value.oneCell']) ?_; intro w3 hr3 hg3)
    try rw [Exit.noGoto_ret]
    refine bodyPost_ret (results_c rfl _ rfl (load_blk hr3 Tryd.underlying40 rfl hi)) rfl ?_
    exact ⟨by rw [e9.out], below_own hB hg3 hB.size (Nat.le_refl _)⟩
  · have e9 : idN 1 = 1 := rfl
    have c0 : w1.cell? ⟨0, 2, none⟩ = some (.string (strB (nmB 1))) := (hM1.2 1 (by omega)).1
    have c1 : w1.cell? ⟨0, 3, none⟩ = some (.int .i64 (nmS 1)) := (hM1.2 1 (by omega)).2
    replace e9 := Lib.hid e9
    go_wp2_with (refine wpList_store_blk rfl hr 40 (.tmp 2) (.tmp 13) rfl rfl rfl rfl hi (by simp [Value.oneCell']) ?_; intro w3 hr3 hg3)
    try rw [Exit.noGoto_ret]
    refine bodyPost_ret (results_c rfl _ rfl (load_blk hr3 Tryd.underlying40 rfl hi)) rfl ?_
    exact ⟨by rw [e9.out], below_own hB hg3 hB.size (Nat.le_refl _)⟩
  · have e9 : idN 2 = 2 := rfl
    have c0 : w1.cell? ⟨0, 4, none⟩ = some (.string (strB (nmB 2))) := (hM1.2 2 (by omega)).1
    have c1 : w1.cell? ⟨0, 5, none⟩ = some (.int .i64 (nmS 2)) := (hM1.2 2 (by omega)).2
    replace e9 := Lib.hid e9
    go_wp2_with (refine wpList_store_blk rfl hr 40 (.tmp 2) (.tmp 13) rfl rfl rfl rfl hi (by simp [Value.oneCell']) ?_; intro w3 hr3 hg3)
    try rw [Exit.noGoto_ret]
    refine bodyPost_ret (results_c rfl _ rfl (load_blk hr3 Tryd.underlying40 rfl hi)) rfl ?_
    exact ⟨by rw [e9.out], below_own hB hg3 hB.size (Nat.le_refl _)⟩
  · have e9 : idN 3 = 3 := rfl
    have c0 : w1.cell? ⟨0, 6, none⟩ = some (.string (strB (nmB 3))) := (hM1.2 3 (by omega)).1
    have c1 : w1.cell? ⟨0, 7, none⟩ = some (.int .i64 (nmS 3)) := (hM1.2 3 (by omega)).2
    replace e9 := Lib.hid e9
    go_wp2_with (refine wpList_store_blk rfl hr 40 (.tmp 2) (.tmp 13) rfl rfl rfl rfl hi (by simp [Value.oneCell']) ?_; intro w3 hr3 hg3)
    try rw [Exit.noGoto_ret]
    refine bodyPost_ret (results_c rfl _ rfl (load_blk hr3 Tryd.underlying40 rfl hi)) rfl ?_
    exact ⟨by rw [e9.out], below_own hB hg3 hB.size (Nat.le_refl _)⟩
  · have e9 : idN 4 = 4 := rfl
    have c0 : w1.cell? ⟨0, 8, none⟩ = some (.string (strB (nmB 4))) := (hM1.2 4 (by omega)).1
    have c1 : w1.cell? ⟨0, 9, none⟩ = some (.int .i64 (nmS 4)) := (hM1.2 4 (by omega)).2
    replace e9 := Lib.hid e9
    go_wp2_with (refine wpList_store_blk rfl hr 40 (.tmp 2) (.tmp 13) rfl rfl rfl rfl hi (by simp [Value.oneCell']) ?_; intro w3 hr3 hg3)
    try rw [Exit.noGoto_ret]
    refine bodyPost_ret (results_c rfl _ rfl (load_blk hr3 Tryd.underlying40 rfl hi)) rfl ?_
    exact ⟨by rw [e9.out], below_own hB hg3 hB.size (Nat.le_refl _)⟩
  · have e9 : idN 5 = 5 := rfl
    have c0 : w1.cell? ⟨0, 10, none⟩ = some (.string (strB (nmB 5))) := (hM1.2 5 (by omega)).1
    have c1 : w1.cell? ⟨0, 11, none⟩ = some (.int .i64 (nmS 5)) := (hM1.2 5 (by omega)).2
    replace e9 := Lib.hid e9
    go_wp2_with (refine wpList_store_blk rfl hr 40 (.tmp 2) (.tmp 13) rfl rfl rfl rfl hi (by simp [Value.oneCell']) ?_; intro w3 hr3 hg3)
    try rw [Exit.noGoto_ret]
    refine bodyPost_ret (results_c rfl _ rfl (load_blk hr3 Tryd.underlying40 rfl hi)) rfl ?_
    exact ⟨by rw [e9.out], below_own hB hg3 hB.size (Nat.le_refl _)⟩
  · have e9 : idN 6 = 6 := rfl
    have c0 : w1.cell? ⟨0, 12, none⟩ = some (.string (strB (nmB 6))) := (hM1.2 6 (by omega)).1
    have c1 : w1.cell? ⟨0, 13, none⟩ = some (.int .i64 (nmS 6)) := (hM1.2 6 (by omega)).2
    replace e9 := Lib.hid e9
    go_wp2_with (refine wpList_store_blk rfl hr 40 (.tmp 2) (.tmp 13) rfl rfl rfl rfl hi (by simp [Value.oneCell']) ?_; intro w3 hr3 hg3)
    try rw [Exit.noGoto_ret]
    refine bodyPost_ret (results_c rfl _ rfl (load_blk hr3 Tryd.underlying40 rfl hi)) rfl ?_
    exact ⟨by rw [e9.out], below_own hB hg3 hB.size (Nat.le_refl _)⟩
set_option maxRecDepth 100000 in
theorem noName_any (w : World) (hM : Mean w) (cd : Int) : Calls Tryd.prog 14 #[.int .i64 cd] w fun e w' => e = .returned (.string (strB (nmB (idN cd)))) ∧ Below w.heap.size w w' := by
  go_enter Tryd.func14, Tryd.ntmps14
  have hf0 := fun w => fld0 (strB (nmB (idN cd))) (nmS (idN cd)) w
  have hf1 := fun w => fld1 (strB (nmB (idN cd))) (nmS (idN cd)) w
  go_wp2_with fail
  refine (of_any w hM cd).mono ?_
  rintro e w1 ⟨rfl, hb⟩
  go_wp2_with fail
  go_ret
  exact ⟨rfl, hb⟩
set_option maxRecDepth 100000 in
theorem noSubs_any (w : World) (hM : Mean w) (cd : Int) : Calls Tryd.prog 16 #[.int .i64 cd] w fun e w' => e = .returned (.int .i64 (nmS (idN cd))) ∧ Below w.heap.size w w' := by
  go_enter Tryd.func16, Tryd.ntmps16
  have hf0 := fun w => fld0 (strB (nmB (idN cd))) (nmS (idN cd)) w
  have hf1 := fun w => fld1 (strB (nmB (idN cd))) (nmS (idN cd)) w
  go_wp2_with fail
  refine (of_any w hM cd).mono ?_
  rintro e w1 ⟨rfl, hb⟩
  go_wp2_with fail
  go_ret
  exact ⟨rfl, hb⟩
end Go.Proofs.YtfnclmacodchfaaDoor
