/- policy: Attrs at any level, the document's Attrs. -/
import Derived.Test.YthbfnppgaaeilaaDoorCdD
namespace Go.Proofs.YthbfnppgaaeilaaDoor
set_option linter.unusedVariables false
open Go Go.RowKit

set_option maxRecDepth 100000 in
set_option maxHeartbeats 4000000 in
theorem attrs_lvl (s h m p b lv : Int) (w : World) (h0 : 0 ≤ h) (h1 : h ≤ 4294967295) (hg : goodV s h m p b = true) (hlv : inV lv 1 2 = false) :
    Calls Tryd.prog 5 #[.agg #[.int .i64 s, .int .u32 h, .int .i64 m, .int .i64 p, .int .i64 b], .int .i64 lv] w fun e w' => e = .returned (.tuple #[.agg attrZ, .bool false]) ∧ Below w.heap.size w w' := by
  have hp := (Blk.new w 24 (polCs s h m p b)).alloc (.cells attrZ 27)
  have hz := Blk.new (w.alloc (.cells (polCs s h m p b) 24)) 27 attrZ
  rw [World.size_alloc] at hz
  have hB : Below w.heap.size w ((w.alloc (.cells (polCs s h m p b) 24)).alloc (.cells attrZ 27)) := ((Below.refl _ _).alloc (Nat.le_refl _) _).alloc (by simp) _
  have hif : (Tryd.prog.info? 27).map (·.size) = some 5 := by kernel_rfl
  go_enter Tryd.func5, Tryd.ntmps5
  go_wp2_with fail
  go_at_call 9
  refine (good_any s h m p b _ h0 h1).mono ?_
  rintro e w1 ⟨rfl, hx⟩
  rw [hg]
  have hz := hz.below hx hz.lt
  have hB := hB.trans (hx.mono hB.size)
  have hth : w1.there (w.heap.size + 1) 0 5 := fun j hj => ⟨by
    rw [hz.cell]
    match j, hj with
    | 0, _ => rfl
    | 1, _ => rfl
    | 2, _ => rfl
    | 3, _ => rfl
    | 4, _ => rfl, hz.frozen _⟩
  have hzN := blk_setCells5 hz (.int .i64 0) (.slice none 0 0) (.int .u32 0) (.int .i64 0) (.bool false)
  have hBN : Below w.heap.size w (w1.setCells (w.heap.size + 1) 0 [.int .i64 0, .slice none 0 0, .int .u32 0, .int .i64 0, .bool false]) := ((((hB.setCell (p := ⟨w.heap.size + 1, 0, none⟩) (by simp) _).setCell (p := ⟨w.heap.size + 1, 1, none⟩) (by simp) _).setCell (p := ⟨w.heap.size + 1, 2, none⟩) (by simp) _).setCell (p := ⟨w.heap.size + 1, 3, none⟩) (by simp) _).setCell (p := ⟨w.heap.size + 1, 4, none⟩) (by simp) _
  go_wp2_with (first | (go_at_call 26; refine (in_any _ _ _ _).mono ?_; rintro e w' ⟨rfl, rfl⟩; rw [hlv]) | refine wpList_store_mid (by rfl) 27 _ _ (by rfl) (w.heap.size + 1) 0 #[.int .i64 0, .slice none 0 0, .int .u32 0, .int .i64 0, .bool false] (by rfl) (by rfl) hth hif (by simp [Value.oneCell']) ?_)
  refine bodyPost_ret (results_cell_tmp rfl _ rfl (run_loadVar_mid _ _ _ _ [.int .i64 0, .slice none 0 0, .int .u32 0, .int .i64 0, .bool false] _ (fun j v hj => by rw [Nat.zero_add, hzN.cell]; simpa using hj) Tryd.underlying27 rfl hif)) rfl ?_
  exact ⟨rfl, hBN⟩


set_option maxRecDepth 100000 in
set_option maxHeartbeats 4000000 in
theorem refAttrs_bad (s h m p b lv : Int) (w : World) (h0 : 0 ≤ h) (h1 : h ≤ 4294967295) (hg : goodV s h m p b = false) :
    Calls Tryd.prog 6 #[.agg #[.int .i64 s, .int .u32 h, .int .i64 m, .int .i64 p, .int .i64 b], .int .i64 lv] w fun e w' => e = .returned (.tuple #[.agg attrZ, .bool false]) ∧ Below w.heap.size w w' := by
  have hp := (Blk.new w 33 (polCs s h m p b)).alloc (.cells attrZ 30)
  have hz := Blk.new (w.alloc (.cells (polCs s h m p b) 33)) 30 attrZ
  rw [World.size_alloc] at hz
  have hB : Below w.heap.size w ((w.alloc (.cells (polCs s h m p b) 33)).alloc (.cells attrZ 30)) := ((Below.refl _ _).alloc (Nat.le_refl _) _).alloc (by simp) _
  have hif : (Tryd.prog.info? 30).map (·.size) = some 5 := by kernel_rfl
  go_enter Tryd.func6, Tryd.ntmps6
  go_wp2_with fail
  go_at_call 7
  refine (refGood17_any s h m p b _ h0 h1).mono ?_
  rintro e w1 ⟨rfl, hx⟩
  rw [hg]
  have hz := hz.below hx hz.lt
  have hB := hB.trans (hx.mono hB.size)
  have hth : w1.there (w.heap.size + 1) 0 5 := fun j hj => ⟨by
    rw [hz.cell]
    match j, hj with
    | 0, _ => rfl
    | 1, _ => rfl
    | 2, _ => rfl
    | 3, _ => rfl
    | 4, _ => rfl, hz.frozen _⟩
  have hzN := blk_setCells5 hz (.int .i64 0) (.slice none 0 0) (.int .u32 0) (.int .i64 0) (.bool false)
  have hBN : Below w.heap.size w (w1.setCells (w.heap.size + 1) 0 [.int .i64 0, .slice none 0 0, .int .u32 0, .int .i64 0, .bool false]) := ((((hB.setCell (p := ⟨w.heap.size + 1, 0, none⟩) (by simp) _).setCell (p := ⟨w.heap.size + 1, 1, none⟩) (by simp) _).setCell (p := ⟨w.heap.size + 1, 2, none⟩) (by simp) _).setCell (p := ⟨w.heap.size + 1, 3, none⟩) (by simp) _).setCell (p := ⟨w.heap.size + 1, 4, none⟩) (by simp) _
  go_wp2_with (refine wpList_store_mid (by rfl) 30 _ _ (by rfl) (w.heap.size + 1) 0 #[.int .i64 0, .slice none 0 0, .int .u32 0, .int .i64 0, .bool false] (by rfl) (by rfl) hth hif (by simp [Value.oneCell']) ?_)
  refine bodyPost_ret (results_cell_tmp rfl _ rfl (run_loadVar_mid _ _ _ _ [.int .i64 0, .slice none 0 0, .int .u32 0, .int .i64 0, .bool false] _ (fun j v hj => by rw [Nat.zero_add, hzN.cell]; simpa using hj) Tryd.underlying30 rfl hif)) rfl ?_
  exact ⟨rfl, hBN⟩


set_option maxRecDepth 100000 in
set_option maxHeartbeats 4000000 in
theorem refAttrs_lvl (s h m p b lv : Int) (w : World) (h0 : 0 ≤ h) (h1 : h ≤ 4294967295) (hg : goodV s h m p b = true) (l1 : lv ≠ 1) (l2 : lv ≠ 2) :
    Calls Tryd.prog 6 #[.agg #[.int .i64 s, .int .u32 h, .int .i64 m, .int .i64 p, .int .i64 b], .int .i64 lv] w fun e w' => e = .returned (.tuple #[.agg attrZ, .bool false]) ∧ Below w.heap.size w w' := by
  have hp := (Blk.new w 33 (polCs s h m p b)).alloc (.cells attrZ 30)
  have hz := Blk.new (w.alloc (.cells (polCs s h m p b) 33)) 30 attrZ
  rw [World.size_alloc] at hz
  have hB : Below w.heap.size w ((w.alloc (.cells (polCs s h m p b) 33)).alloc (.cells attrZ 30)) := ((Below.refl _ _).alloc (Nat.le_refl _) _).alloc (by simp) _
  have hif : (Tryd.prog.info? 30).map (·.size) = some 5 := by kernel_rfl
  go_enter Tryd.func6, Tryd.ntmps6
  go_wp2_with fail
  go_at_call 7
  refine (refGood17_any s h m p b _ h0 h1).mono ?_
  rintro e w1 ⟨rfl, hx⟩
  rw [hg]
  have hz := hz.below hx hz.lt
  have hB := hB.trans (hx.mono hB.size)
  have hth : w1.there (w.heap.size + 1) 0 5 := fun j hj => ⟨by
    rw [hz.cell]
    match j, hj with
    | 0, _ => rfl
    | 1, _ => rfl
    | 2, _ => rfl
    | 3, _ => rfl
    | 4, _ => rfl, hz.frozen _⟩
  have hzN := blk_setCells5 hz (.int .i64 0) (.slice none 0 0) (.int .u32 0) (.int .i64 0) (.bool false)
  have hBN : Below w.heap.size w (w1.setCells (w.heap.size + 1) 0 [.int .i64 0, .slice none 0 0, .int .u32 0, .int .i64 0, .bool false]) := ((((hB.setCell (p := ⟨w.heap.size + 1, 0, none⟩) (by simp) _).setCell (p := ⟨w.heap.size + 1, 1, none⟩) (by simp) _).setCell (p := ⟨w.heap.size + 1, 2, none⟩) (by simp) _).setCell (p := ⟨w.heap.size + 1, 3, none⟩) (by simp) _).setCell (p := ⟨w.heap.size + 1, 4, none⟩) (by simp) _
  have b1 : (lv != 1) = true := by simpa using l1
  have b2 : (lv != 2) = true := by simpa using l2
  go_upto_region 2 with (fail)
  go_wp2_with (refine wpList_store_mid (by rfl) 30 _ _ (by rfl) (w.heap.size + 1) 0 #[.int .i64 0, .slice none 0 0, .int .u32 0, .int .i64 0, .bool false] (by rfl) (by rfl) hth hif (by simp [Value.oneCell']) ?_)
  refine bodyPost_ret (results_cell_tmp rfl _ rfl (run_loadVar_mid _ _ _ _ [.int .i64 0, .slice none 0 0, .int .u32 0, .int .i64 0, .bool false] _ (fun j v hj => by rw [Nat.zero_add, hzN.cell]; simpa using hj) Tryd.underlying30 rfl hif)) rfl ?_
  exact ⟨rfl, hBN⟩


set_option maxRecDepth 100000 in
set_option maxHeartbeats 4000000 in
theorem refAttrs_norm (s h m p b : Int) (w : World) (h0 : 0 ≤ h) (h1 : h ≤ 4294967295) (hg : goodV s h m p b = true) :
    Calls Tryd.prog 6 #[.agg #[.int .i64 s, .int .u32 h, .int .i64 m, .int .i64 p, .int .i64 b], .int .i64 1] w fun e w' => ∃ g, e = .returned (.tuple #[.agg #[.int .i64 0, .slice (some ⟨g, 0, none⟩) 1 1, .int .u32 h, .int .i64 m, .bool true], .bool true]) ∧ w.heap.size ≤ g ∧ Blk w' g 3 #[.int .i64 s] ∧ Below w.heap.size w w' := by
  have hp := (Blk.new w 33 (polCs s h m p b)).alloc (.cells attrZ 30)
  have hz := Blk.new (w.alloc (.cells (polCs s h m p b) 33)) 30 attrZ
  rw [World.size_alloc] at hz
  have hB : Below w.heap.size w ((w.alloc (.cells (polCs s h m p b) 33)).alloc (.cells attrZ 30)) := ((Below.refl _ _).alloc (Nat.le_refl _) _).alloc (by simp) _
  have hif : (Tryd.prog.info? 30).map (·.size) = some 5 := by kernel_rfl
  go_enter Tryd.func6, Tryd.ntmps6
  go_wp2_with fail
  go_at_call 7
  refine (refGood17_any s h m p b _ h0 h1).mono ?_
  rintro e w1 ⟨rfl, hx⟩
  rw [hg]
  have hp := hp.below hx hp.lt
  have hz := hz.below hx hz.lt
  have hB := hB.trans (hx.mono hB.size)
  have a0 := hp.cellv 0 (v := .int .i64 s) rfl
  have hp1 := hp.alloc (.cells #[.int .i64 s] 3)
  have b1 := hp1.cellv 1 (v := .int .u32 h) rfl
  have b2 := hp1.cellv 2 (v := .int .i64 m) rfl
  have hz2 := (hz.alloc (.cells #[.int .i64 s] 3)).alloc (.cells #[.int .i64 0, .slice (some ⟨w1.heap.size, 0, none⟩) 1 1, .int .u32 h, .int .i64 m, .bool true] 30)
  have hs2 := (Blk.new w1 3 #[.int .i64 s]).alloc (.cells #[.int .i64 0, .slice (some ⟨w1.heap.size, 0, none⟩) 1 1, .int .u32 h, .int .i64 m, .bool true] 30)
  have hB2 := (hB.alloc hB.size (.cells #[.int .i64 s] 3)).alloc (by have := hB.size; simp; omega) (.cells #[.int .i64 0, .slice (some ⟨w1.heap.size, 0, none⟩) 1 1, .int .u32 h, .int .i64 m, .bool true] 30)
  have hzl := hz.lt
  have hth : ((w1.alloc (.cells #[.int .i64 s] 3)).alloc (.cells #[.int .i64 0, .slice (some ⟨w1.heap.size, 0, none⟩) 1 1, .int .u32 h, .int .i64 m, .bool true] 30)).there (w.heap.size + 1) 0 5 := fun j hj => ⟨by
    rw [hz2.cell]
    match j, hj with
    | 0, _ => rfl
    | 1, _ => rfl
    | 2, _ => rfl
    | 3, _ => rfl
    | 4, _ => rfl, hz2.frozen _⟩
  have hzN := blk_setCells5 hz2 (.int .i64 0) (.slice (some ⟨w1.heap.size, 0, none⟩) 1 1) (.int .u32 h) (.int .i64 m) (.bool true)
  have hBN : Below w.heap.size w (((w1.alloc (.cells #[.int .i64 s] 3)).alloc (.cells #[.int .i64 0, .slice (some ⟨w1.heap.size, 0, none⟩) 1 1, .int .u32 h, .int .i64 m, .bool true] 30)).setCells (w.heap.size + 1) 0 [.int .i64 0, .slice (some ⟨w1.heap.size, 0, none⟩) 1 1, .int .u32 h, .int .i64 m, .bool true]) := ((((hB2.setCell (p := ⟨w.heap.size + 1, 0, none⟩) (by simp) _).setCell (p := ⟨w.heap.size + 1, 1, none⟩) (by simp) _).setCell (p := ⟨w.heap.size + 1, 2, none⟩) (by simp) _).setCell (p := ⟨w.heap.size + 1, 3, none⟩) (by simp) _).setCell (p := ⟨w.heap.size + 1, 4, none⟩) (by simp) _
  have hsN : Blk (((w1.alloc (.cells #[.int .i64 s] 3)).alloc (.cells #[.int .i64 0, .slice (some ⟨w1.heap.size, 0, none⟩) 1 1, .int .u32 h, .int .i64 m, .bool true] 30)).setCells (w.heap.size + 1) 0 [.int .i64 0, .slice (some ⟨w1.heap.size, 0, none⟩) 1 1, .int .u32 h, .int .i64 m, .bool true]) w1.heap.size 3 #[.int .i64 s] := ((((hs2.far (p := ⟨w.heap.size + 1, 0, none⟩) (by simp; omega) _).far (p := ⟨w.heap.size + 1, 1, none⟩) (by simp; omega) _).far (p := ⟨w.heap.size + 1, 2, none⟩) (by simp; omega) _).far (p := ⟨w.heap.size + 1, 3, none⟩) (by simp; omega) _).far (p := ⟨w.heap.size + 1, 4, none⟩) (by simp; omega) _
  go_wp2_with ((refine wpList_store_mid (by rfl) 30 (.tmp 4) (.tmp 46) (by rfl) (w.heap.size + 1) 0 #[.int .i64 0, .slice (some ⟨w1.heap.size, 0, none⟩) 1 1, .int .u32 h, .int .i64 m, .bool true] (by rfl) (by rfl) hth hif (by simp [Value.oneCell']) ?_))
  refine bodyPost_ret (results_cell_tmp rfl _ rfl (run_loadVar_mid _ _ _ _ [.int .i64 0, .slice (some ⟨w1.heap.size, 0, none⟩) 1 1, .int .u32 h, .int .i64 m, .bool true] _ (fun j v hj => by rw [Nat.zero_add, hzN.cell]; simpa using hj) Tryd.underlying30 rfl hif)) rfl ?_
  exact ⟨_, rfl, hB.size, hsN, hBN⟩


set_option maxRecDepth 100000 in
set_option maxHeartbeats 4000000 in
theorem refAttrs_fall (s h m b : Int) (p : Nat) (w : World) (hp15 : p ≤ 15) (hs : 1 ≤ s ∧ s ≤ 65535)
    (hG : ∀ w, Calls Tryd.prog 7 #[.agg #[.int .i64 s, .int .u32 h, .int .i64 m, .int .i64 p, .int .i64 b]] w fun e w' => e = .returned (.bool true) ∧ Below w.heap.size w w') :
    Calls Tryd.prog 6 #[.agg #[.int .i64 s, .int .u32 h, .int .i64 m, .int .i64 p, .int .i64 b], .int .i64 2] w fun e w' =>
    ∃ v B, e = .returned (.tuple #[.agg #[.int .i64 0, v, .int .u32 h, .int .i64 b, .bool true], .bool true]) ∧ w.heap.size ≤ B ∧ Own1 w' B 3 1 v (p + 1) (List.replicate (p + 1) (.int .i64 s)) ∧ Below w.heap.size w w' := by
  have hp := (Blk.new w 33 (polCs s h m p b)).alloc (.cells attrZ 30)
  have hz := Blk.new (w.alloc (.cells (polCs s h m p b) 33)) 30 attrZ
  rw [World.size_alloc] at hz
  have hB : Below w.heap.size w ((w.alloc (.cells (polCs s h m p b) 33)).alloc (.cells attrZ 30)) := ((Below.refl _ _).alloc (Nat.le_refl _) _).alloc (by simp) _
  go_enter Tryd.func6, Tryd.ntmps6
  go_wp2_with fail
  go_at_call 7
  refine (hG _).mono ?_
  rintro e w1 ⟨rfl, hx⟩
  have hp := hp.below hx hp.lt
  have hz := hz.below hx hz.lt
  have hB := hB.trans (hx.mono hB.size)
  clear hx
  have a0 := hp.cellv 0 (v := .int .i64 s) rfl
  have a1 := hp.cellv 1 (v := .int .u32 h) rfl
  have a2 := hp.cellv 2 (v := .int .i64 m) rfl
  have hp1 := hp.alloc (.cells #[.int .i64 s] 3)
  have hz1 := hz.alloc (.cells #[.int .i64 s] 3)
  have hB1 := hB.alloc hB.size (.cells #[.int .i64 s] 3)
  have hv1 := Own1.lit (base := w1.heap.size) (size := 1) (et := 3) w1 #[.int .i64 s] 1 (Nat.le_refl _) (by decide) rfl
  have b1 := hp1.cellv 1 (v := .int .u32 h) rfl
  have b2 := hp1.cellv 2 (v := .int .i64 m) rfl
  have hp2 := hp1.alloc (.cells (attrVs h (.slice (some ⟨w1.heap.size, 0, none⟩) 1 1) m) 30)
  have c4 := hp2.cellv 4 (v := .int .i64 b) rfl
  have l1 := hz.lt
  have hp3 := hp1.alloc (.cells (attrVs h (.slice (some ⟨w1.heap.size, 0, none⟩) 1 1) b) 30)
  have hz3 := hz1.alloc (.cells (attrVs h (.slice (some ⟨w1.heap.size, 0, none⟩) 1 1) b) 30)
  have hv3 := hv1.alloc (.cells (attrVs h (.slice (some ⟨w1.heap.size, 0, none⟩) 1 1) b) 30)
  have hB3 := hB1.alloc hB1.size (.cells (attrVs h (.slice (some ⟨w1.heap.size, 0, none⟩) 1 1) b) 30)
  have ha3 := Blk.new (w1.alloc (.cells #[.int .i64 s] 3)) 30 (attrVs h (.slice (some ⟨w1.heap.size, 0, none⟩) 1 1) b)
  rw [World.size_alloc] at ha3
  have d3 := hp3.cellv 3 (v := .int .i64 p) rfl
  unfold attrVs at c4 d3
  go_wp2_with fail
  have lp := hp.lt
  have hbw : w.heap.size + 2 ≤ w1.heap.size := by have := hz.lt; omega
  have lsz := hB3.size
  have l3 : w1.heap.size ≤ ((w1.alloc (.cells #[.int .i64 s] 3)).alloc (.cells (attrVs h (.slice (some ⟨w1.heap.size, 0, none⟩) 1 1) b) 30)).heap.size := by simp; omega
  have hn3 : Value.ownBlock (.slice (some ⟨w1.heap.size, 0, none⟩) 1 1) ≠ some (w1.heap.size + 1) := by simp [Value.ownBlock]
  change Code.wp _ _ _ _ ((w1.alloc (.cells #[.int .i64 s] 3)).alloc (.cells (attrVs h (.slice (some ⟨w1.heap.size, 0, none⟩) 1 1) b) 30))
  generalize ((w1.alloc (.cells #[.int .i64 s] 3)).alloc (.cells (attrVs h (.slice (some ⟨w1.heap.size, 0, none⟩) 1 1) b) 30)) = w2 at *
  generalize (Value.slice (some ⟨w1.heap.size, 0, none⟩) 1 1) = v2 at *
  generalize hgA : w1.heap.size + 1 = gA at *
  generalize hbase : w1.heap.size = base at *
  clear hp hz hB a0 a1 a2 hp1 hz1 hB1 hv1 b1 b2 hp2 c4 d3
  go_loopw [7] (fun i wr => ∃ (k : Nat) (v : Value), k ≤ p ∧ i = .int .i64 k ∧ Blk wr w.heap.size 33 (polCs s h m p b) ∧ Blk wr (w.heap.size + 1) 30 attrZ ∧ Blk wr gA 30 (attrVs h v b) ∧ Own1 wr base 3 1 v (k + 1) (List.replicate (k + 1) (.int .i64 s)) ∧ v.ownBlock ≠ some gA ∧ Below w.heap.size w wr ∧ base ≤ wr.heap.size) (fun i _ => p - (intOf i).toNat)
  case atStart => exact ⟨0, _, Nat.zero_le _, rfl, hp3, hz3, ha3, hv3, hn3, hB3, l3⟩
  case round =>
    obtain ⟨k, v, hk, rfl, hp, hz, ha, hv, hn, hB, hl⟩ := hrel
    have e0 := (hp.cellv 0 (v := .int .i64 s) rfl)
    have e1 := ha.cellv 1 (v := v) rfl
    have e3 := (hp.cellv 3 (v := .int .i64 p) rfl)
    by_cases hlt : k < p
    · have hX := one_src wr (.int .i64 s) 3
      have hvl := hv.alloc (.cells #[.int .i64 s] 3)
      have hgl := ha.lt
      have e1' := (ha.alloc (.cells #[.int .i64 s] 3)).cellv 1 (v := v) rfl
      have e0' := (hp.alloc (.cells #[.int .i64 s] 3)).cellv 0 (v := .int .i64 s) rfl
      have hn0 : ∀ j, j < base → v.ownBlock ≠ some j := fun j hj he => by have := (hv.lt j he).1; omega
      go_wp2_with (at_builtin; refine wpList_app1 _ ints_ok rfl (.tmp 40) (.tmp 43) rfl base v (k + 1) _ rfl hvl _ 1 1 [.int .i64 s] rfl rfl hX (by simp [Value.oneCell']) (by simp [maxLen]; omega) (by omega) (by simp; omega) ?_; intro v3 w3 hown hg hd; have hp := (hp.alloc (.cells #[.int .i64 s] 3)).grown hg (fun e => hn0 _ (by omega) e.symm); have hz := (hz.alloc (.cells #[.int .i64 s] 3)).grown hg (fun e => hn0 _ (by omega) e.symm); have ha := (ha.alloc (.cells #[.int .i64 s] 3)).grown hg (fun e => hn e.symm); have hB := (hB.alloc hB.size (.cells #[.int .i64 s] 3)).trans ((hvl.below_app hg (by simp; omega)).mono (by omega)); have f1 := ha.frozen 1; have q1 := ha.cellv 1 (v := v) rfl; have hsz := hg.size; have hn3 : v3.ownBlock ≠ some gA := (by rcases hd with e | e <;> rw [e]; exact hn; simp; omega); obtain ⟨g3, c3, rfl, hg3b, hg3s, hc3, _⟩ := hown.form (by omega))
      refine ⟨⟨k + 1, _, by omega, by go_num, hp.far (by simp; omega) _, hz.far (by simp; omega) _, ha.set_ 1 _, ?_, hn3, hB.setCell (by simp; omega) _, by simp [World.setCell]; simp at hsz; omega⟩, by simp [intOf]; omega⟩
      rw [List.replicate_succ']
      exact hown.setOther hn3 _
    · have hkp : k = p := by omega
      have hzr := hz
      have hBr := hB
      have hvr := hv
      have hnr := hn
      subst hkp
      have r0 := ha.cellv 0 (v := .int .i64 0) rfl
      have r2 := ha.cellv 2 (v := .int .u32 h) rfl
      have r3 := ha.cellv 3 (v := .int .i64 b) rfl
      have r4 := ha.cellv 4 (v := .bool true) rfl
      have hth : wr.there (w.heap.size + 1) 0 5 := fun j hj => ⟨by
        rw [hzr.cell]
        match j, hj with
        | 0, _ => rfl
        | 1, _ => rfl
        | 2, _ => rfl
        | 3, _ => rfl
        | 4, _ => rfl, hzr.frozen _⟩
      have hif : (Tryd.prog.info? 30).map (·.size) = some 5 := by kernel_rfl
      obtain ⟨gv, cv, rfl, _⟩ := hvr.form (by omega)
      go_wp2_with (refine wpList_store_mid (by rfl) 30 (.tmp 4) (.tmp 46) (by rfl) (w.heap.size + 1) 0 #[.int .i64 0, .slice (some ⟨gv, 0, none⟩) (k + 1) cv, .int .u32 h, .int .i64 b, .bool true] (by rfl) (by rfl) hth hif (by simp [Value.oneCell']) ?_)
      have hzN := blk_setCells5 hzr (.int .i64 0) (.slice (some ⟨gv, 0, none⟩) (k + 1) cv) (.int .u32 h) (.int .i64 b) (.bool true)
      have hBN : Below w.heap.size w (wr.setCells (w.heap.size + 1) 0 [.int .i64 0, .slice (some ⟨gv, 0, none⟩) (k + 1) cv, .int .u32 h, .int .i64 b, .bool true]) := ((((hBr.setCell (p := ⟨w.heap.size + 1, 0, none⟩) (by simp) _).setCell (p := ⟨w.heap.size + 1, 1, none⟩) (by simp) _).setCell (p := ⟨w.heap.size + 1, 2, none⟩) (by simp) _).setCell (p := ⟨w.heap.size + 1, 3, none⟩) (by simp) _).setCell (p := ⟨w.heap.size + 1, 4, none⟩) (by simp) _
      have hvN : Own1 (wr.setCells (w.heap.size + 1) 0 [.int .i64 0, .slice (some ⟨gv, 0, none⟩) (k + 1) cv, .int .u32 h, .int .i64 b, .bool true]) base 3 1 (.slice (some ⟨gv, 0, none⟩) (k + 1) cv) (k + 1) (List.replicate (k + 1) (.int .i64 s)) :=
        ((((hvr.setOther (p := ⟨w.heap.size + 1, 0, none⟩) (by simp [Value.ownBlock]; omega) _).setOther (p := ⟨w.heap.size + 1, 1, none⟩) (by simp [Value.ownBlock]; omega) _).setOther (p := ⟨w.heap.size + 1, 2, none⟩) (by simp [Value.ownBlock]; omega) _).setOther (p := ⟨w.heap.size + 1, 3, none⟩) (by simp [Value.ownBlock]; omega) _).setOther (p := ⟨w.heap.size + 1, 4, none⟩) (by simp [Value.ownBlock]; omega) _
      refine bodyPost_ret (results_cell_tmp rfl _ rfl (run_loadVar_mid _ _ _ _ [.int .i64 0, .slice (some ⟨gv, 0, none⟩) (k + 1) cv, .int .u32 h, .int .i64 b, .bool true] _ (fun j v hj => by rw [Nat.zero_add, hzN.cell]; simpa using hj) Tryd.underlying30 rfl hif)) rfl ?_
      exact ⟨_, base, rfl, by omega, hvN, hBN⟩

end Go.Proofs.YthbfnppgaaeilaaDoor
