import Derived.Test.YtgdeecmhhbdjgaaGreatMVipActs11
import Derived.Test.YtgdeecmhhbdjgaaGreatMVipActs9
import Derived.Test.YtgdeecmhhbdjgaaGreatMVipActs2
import Derived.Test.YtgdeecmhhbdjgaaGreatMVipActs5
/- pool: the very same backends. -/
namespace Go.Proofs.YtgdeecmhhbdjgaaGreat
set_option linter.unusedVariables false
open Go Go.RowKit Go.Maps

theorem take_next {α : Type} {xs ys : List α} {k : Nat} {a : α} (h : xs.take k = ys.take k) (h1 : xs[k]? = some a) (h2 : ys[k]? = some a) : xs.take (k + 1) = ys.take (k + 1) := by
  rw [List.take_add_one, List.take_add_one, h, h1, h2]
end Go.Proofs.YtgdeecmhhbdjgaaGreat

/- pool: the document's Get, Set, Mark, Drain, Weigh. -/
namespace Go.Proofs.YtgdeecmhhbdjgaaGreat
set_option linter.unusedVariables false
open Go Go.RowKit Go.Maps

theorem findF_get {L : List Mem} {id : Int} {k : Nat} (h : findF L id = some k) : ∃ m, L[k]? = some m ∧ m.id = id := by
  induction L generalizing k with
  | nil => simp [findF] at h
  | cons a L ih =>
    unfold findF at h
    by_cases ha : a.id = id
    · rw [if_pos ha] at h
      injection h with h
      subst h
      exact ⟨a, rfl, ha⟩
    · rw [if_neg ha] at h
      obtain ⟨j, hj, rfl⟩ := Option.map_eq_some_iff.1 h
      obtain ⟨m, h1, h2⟩ := ih hj
      exact ⟨m, by simpa using h1, h2⟩
theorem findF_no {L : List Mem} {id : Int} (h : findF L id = none) : ∀ m ∈ L, m.id ≠ id := by
  induction L with
  | nil => simp
  | cons a L ih =>
    unfold findF at h
    by_cases ha : a.id = id
    · rw [if_pos ha] at h; cases h
    · rw [if_neg ha, Option.map_eq_none_iff] at h
      intro m hm
      rcases List.mem_cons.1 hm with rfl | hm
      · exact ha
      · exact ih h m hm
theorem rows_lit5 (w : World) : Rows memK (w.alloc (.cells #[] 240)) w.heap.size w.heap.size 240 (.slice (some ⟨w.heap.size, 0, none⟩) 0 0) [] :=
  ⟨by have := Own1.lit (base := w.heap.size) (et := 240) (size := 5) w #[] 0 (Nat.le_refl _) (Nat.zero_le _) rfl; exact this, by simp⟩
def zeroM : Mem := ⟨0, 0, 0, false, false⟩
def getM (L : List Mem) (id : Int) : Mem := match findF L id with
  | some k => L[k]?.getD zeroM
  | none => zeroM
theorem getM_some {L : List Mem} {id : Int} {k : Nat} {m : Mem} (h : findF L id = some k) (hm : L[k]? = some m) : getM L id = m := by
  unfold getM; rw [h]; simp [hm]
theorem getM_none {L : List Mem} {id : Int} (h : findF L id = none) : getM L id = zeroM := by
  unfold getM; rw [h]
theorem row5 : (Tryz.prog.info? 240).map (·.size) = some 5 := by kernel_rfl
set_option maxRecDepth 100000 in
set_option maxHeartbeats 2000000 in
theorem refGet25 (w : World) (X : Nat → Prop) (g : Nat) (pc : Int) (L : List Mem) (id : Int) (h : RefIn w X g pc L) (hn : L.length ≤ 100000) :
    Calls Tryz.prog 197 #[.pointer (some ⟨g, 0, none⟩), .int .i64 id] w fun e w' => e = .returned (.agg (memC (getM L id))) ∧ Below w.heap.size w w' := by
  have hB := (Below.refl w.heap.size w).alloc (Nat.le_refl _) (.cells #[.int .i64 0, .int .u32 0, .int .i64 0, .bool false, .bool false] 240)
  have hr := Blk.new w 240 #[.int .i64 0, .int .u32 0, .int .i64 0, .bool false, .bool false]
  have h1 := h.nx hB
  go_enter Tryz.func197, Tryz.ntmps197
  go_upto_region 1 with (fail)
  generalize w.alloc (.cells #[.int .i64 0, .int .u32 0, .int .i64 0, .bool false, .bool false] 240) = w1 at *
  go_upto_region 2 with (go_at_call 191; refine (refFind25 w1 X g pc L id h1 hn).mono ?_; rintro e w2 ⟨rfl, hb⟩)
  have hB2 := hB.trans (hb.mono hB.size)
  have hr2 := hr.below hb hr.lt
  have h2 := h1.nx hb
  cases hf : findF L id with
  | none =>
    have hz : findZ L id = -1 := by unfold findZ; rw [hf]
    have e := Lib.hid (getM_none hf)
    rw [hz]
    go_wp2_with (refine wpList_store_blk rfl hr2 240 (.tmp 4) (.tmp 11) rfl rfl rfl rfl row5 (by simp [Value.oneCell']) ?_; intro w3 hr3 hg3)
    try rw [Exit.noGoto_ret]
    refine bodyPost_ret (results_c rfl _ rfl (load_blk hr3 Tryz.underlying240 rfl row5)) rfl ?_
    exact ⟨by rw [e.out]; rfl, below_own hB2 hg3 hB2.size (Nat.le_refl _)⟩
  | some k =>
    obtain ⟨m, hm, rfl⟩ := findF_get hf
    have hz : findZ L m.id = (k : Int) := by unfold findZ; rw [hf]
    have e := Lib.hid (getM_some hf hm)
    rw [hz]
    have hkl : k < L.length := (List.getElem?_eq_some_iff.1 hm).1
    obtain ⟨A, n, c, hnc, hcm, hq, hS⟩ := h2
    have hln := hS.1
    obtain ⟨b, off, m', rfl, hb', hr', q0, q1, q2, q3, q4⟩ := mem_cells hS (show k < n by omega)
    rw [hm] at hr'
    injection hr' with hr'
    subst hr'
    have hb2 : b < w2.heap.size := hb'.2
    have c1 : w2.cell? ⟨g, 1, none⟩ = some (.slice (some ⟨b, off, none⟩) n c) := hq.cellv 1 rfl
    have ltg := hq.lt
    have d0 : decide ((k : Int) < 0) = false := by simp
    have hki : (k : Int) < n := by omega
    have hk5 : k ≤ 100000 := by omega
    replace hm := Lib.hid hm
    replace hln := Lib.hid hln
    go_wp2_with (refine wpList_store_blk rfl hr2 240 (.tmp 4) (.tmp 18) rfl rfl rfl rfl row5 (by simp [Value.oneCell']) ?_; intro w3 hr3 hg3)
    try rw [Exit.noGoto_ret]
    refine bodyPost_ret (results_c rfl _ rfl (load_blk hr3 Tryz.underlying240 rfl row5)) rfl ?_
    exact ⟨by rw [e.out]; rfl, below_own hB2 hg3 hB2.size (Nat.le_refl _)⟩
def setR (L : List Mem) (id : Int) (up dr : Bool) (wt : Int) : Int × List Mem := match findF L id with
  | some k => (0, L.set k ⟨id, (L[k]?.getD zeroM).ad, wt, up, dr⟩)
  | none => (7, L)
theorem setR_some {L : List Mem} {id : Int} {k : Nat} {m : Mem} (h : findF L id = some k) (hm : L[k]? = some m) (up dr : Bool) (wt : Int) : setR L id up dr wt = (0, L.set k ⟨id, m.ad, wt, up, dr⟩) := by
  unfold setR; rw [h]; simp [hm]
set_option maxRecDepth 100000 in
set_option maxHeartbeats 4000000 in
theorem refSet25 (w : World) (X : Nat → Prop) (g : Nat) (pc : Int) (L : List Mem) (id : Int) (up dr : Bool) (wt : Int) (h : RefIn w X g pc L) (hn : L.length ≤ 100000) (hX : ∀ b, w.heap.size ≤ b → X b) :
    Calls Tryz.prog 198 #[.pointer (some ⟨g, 0, none⟩), .int .i64 id, .bool up, .bool dr, .int .i64 wt] w fun e w' => e = .returned (.int .i64 (setR L id up dr wt).1) ∧ RefIn w' X g pc (setR L id up dr wt).2 ∧ w.grownBy w' (some g) := by
  go_enter Tryz.func198, Tryz.ntmps198
  go_upto_region 2 with (go_at_call 191; refine (refFind25 w X g pc L id h hn).mono ?_; rintro e w2 ⟨rfl, hb⟩)
  have h2 := h.nx hb
  cases hf : findF L id with
  | none =>
    have hz : findZ L id = -1 := by unfold findZ; rw [hf]
    have e : setR L id up dr wt = (7, L) := by unfold setR; rw [hf]
    rw [hz]
    replace e := Lib.hid e
    go_wp2_with fail
    go_ret
    rw [e.out]
    exact ⟨rfl, h2, grown_of_below hb (Nat.le_refl _) _⟩
  | some k =>
    obtain ⟨m, hm, rfl⟩ := findF_get hf
    have hz : findZ L m.id = (k : Int) := by unfold findZ; rw [hf]
    have e := Lib.hid (setR_some hf hm up dr wt)
    rw [hz]
    have hkl : k < L.length := (List.getElem?_eq_some_iff.1 hm).1
    obtain ⟨A, n, c, hnc, hcm, hq, hS⟩ := h2
    have hln := hS.1
    have c1 : w2.cell? ⟨g, 1, none⟩ = some (.slice A n c) := hq.cellv 1 rfl
    have ltg := hq.lt
    have d0 : decide ((k : Int) < 0) = false := by simp
    have hb3 := (Below.refl w2.heap.size w2).alloc (Nat.le_refl _) (.cells #[] 240)
    have hr0 := rows_lit5 w2
    have hS3 := hS.below hb3 fun b q => q.2
    have hq3 := hq.below hb3 hq.lt
    have hzz := hb3.size
    have hlt2 : w2.heap.size < (w2.alloc (.cells #[] 240)).heap.size := by simp
    replace hm := Lib.hid hm
    replace hln := Lib.hid hln
    replace hz := Lib.hid hz
    have hn9 : n ≤ 100000 := by have := hln.out; omega
    clear hf
    go_upto_region 5 with (at_builtin; refine wpList_rows memRow_ok rfl (.tmp 18) (.tmp 22) rfl hr0 rfl rfl hS3 (fun _ _ => trivial) (by unfold maxLen; simp; omega) (by simp; omega) (by omega) ?_; intro v4 w4 hv4 hg4; rw [List.nil_append] at hv4; have hb4 := hr0.below_app hg4 (by omega); obtain ⟨A4, c4, e4, hc4, hcm4, hS4⟩ := hv4.seen (Nat.le_refl _); subst e4; have ltg4 : g < w4.heap.size := Nat.lt_of_lt_of_le ltg (Nat.le_trans hzz hb4.size); have hq4 := hq3.below hb4 ltg; have g0 := hq4.frozen 1; have c4' : w4.cell? ⟨g, 1, none⟩ = some (.slice A n c) := hq4.cellv 1 rfl)
    obtain ⟨hq5, hg5⟩ := blk_store hq4 1 (.slice A4 L.length c4)
    replace hq5 : Blk (w4.setCell ⟨g, 1, none⟩ (.slice A4 L.length c4)) g 238 #[.int .i64 pc, .slice A4 L.length c4] := hq5
    have hv5 := hv4.kept hg5 (fun k' e => by injection e with e; omega) (Nat.le_refl _)
    have hB5 : w2.grownBy (w4.setCell ⟨g, 1, none⟩ (.slice A4 L.length c4)) (some g) := grown_trans (grown_of_below (hb3.trans (hb4.mono (Nat.le_refl _))) (Nat.le_refl _) _) hg5
    clear c4' g0 hq4 hg5 hS4 hv4
    generalize w4.setCell ⟨g, 1, none⟩ (.slice A4 L.length c4) = w5 at *
    obtain ⟨rb, cap, ef, hrb, hrlt, _, _⟩ := hv5.1.form (by omega)
    injection ef with ef1 ef2 ef3
    subst ef1
    subst ef3
    obtain ⟨_, _, ev, _, _, hS5⟩ := hv5.seen (Nat.le_refl _)
    injection ev with ev1 ev2 ev3
    subst ev1
    obtain ⟨b', off', m', eb, hb', hr', q0, q1, q2, q3, q4⟩ := mem_cells hS5 hkl
    injection eb with eb
    injection eb with eb1 eb2
    subst eb1
    subst eb2
    rw [hm.out] at hr'
    injection hr' with hr'
    subst hr'
    rw [Nat.zero_add] at q1
    have c5 : w5.cell? ⟨g, 1, none⟩ = some (.slice (some ⟨rb, 0, none⟩) L.length c4) := hq5.cellv 1 rfl
    have ltg5 := hq5.lt
    have hgr : g ≠ rb := by omega
    have hki : (k : Int) < L.length := by omega
    clear q0 q2 q3 q4
    try refine wp_region_noPanic ?_
    have hs1r : (fun w' => w'.cell? ⟨g, 1, none⟩ = some (.slice (some ⟨rb, 0, none⟩) L.length c4) ∧ w'.cell? ⟨rb, k * 5 + 1, none⟩ = some (.int .u32 m.ad)) w5.drew := ⟨c5, q1⟩
    refine wp_region_held_drew (S := fun w' => w'.cell? ⟨g, 1, none⟩ = some (.slice (some ⟨rb, 0, none⟩) L.length c4) ∧ w'.cell? ⟨rb, k * 5 + 1, none⟩ = some (.int .u32 m.ad)) (by kernel_rfl) hs1r (fun _ => ?_)
    (refine held_takeA 0 (by rfl) ?_ (by kernel_rfl) (fun _ _ _ h => h) hs1r ?_ ?_; rotate_left; (focus (intro wq hSw; have hrd := hSw; have e1 : wq.cell? ⟨g, 1, none⟩ = some (.slice (some ⟨rb, 0, none⟩) L.length c4) := hSw.1; have e2 : wq.cell? ⟨rb, k * 5 + 1, none⟩ = some (.int .u32 m.ad) := hSw.2; go_simp; try with_reducible rfl; done)); try simp only [Act.put, zA, zB, zC])
    (refine held_takeA 1 (by rfl) ?_ (by kernel_rfl) (fun _ _ _ h => h) hs1r ?_ ?_; rotate_left; (focus (intro wq hSw; have hrd := hSw; have e1 : wq.cell? ⟨g, 1, none⟩ = some (.slice (some ⟨rb, 0, none⟩) L.length c4) := hSw.1; have e2 : wq.cell? ⟨rb, k * 5 + 1, none⟩ = some (.int .u32 m.ad) := hSw.2; go_simp; try with_reducible rfl; done)); try simp only [Act.put, zA, zB, zC])
    (refine held_takeA 2 (by rfl) ?_ (by kernel_rfl) (fun _ _ _ h => h) hs1r ?_ ?_; rotate_left; (focus (intro wq hSw; have hrd := hSw; have e1 : wq.cell? ⟨g, 1, none⟩ = some (.slice (some ⟨rb, 0, none⟩) L.length c4) := hSw.1; have e2 : wq.cell? ⟨rb, k * 5 + 1, none⟩ = some (.int .u32 m.ad) := hSw.2; go_simp; try with_reducible rfl; done)); try simp only [Act.put, zA, zB, zC])
    (refine held_takeA 3 (by rfl) ?_ (by kernel_rfl) (fun _ _ _ h => h) hs1r ?_ ?_; rotate_left; (focus (intro wq hSw; have hrd := hSw; have e1 : wq.cell? ⟨g, 1, none⟩ = some (.slice (some ⟨rb, 0, none⟩) L.length c4) := hSw.1; have e2 : wq.cell? ⟨rb, k * 5 + 1, none⟩ = some (.int .u32 m.ad) := hSw.2; go_simp; try with_reducible rfl; done)); try simp only [Act.put, zA, zB, zC])
    (refine held_takeA 4 (by rfl) ?_ (by kernel_rfl) (fun _ _ _ h => h) hs1r ?_ ?_; rotate_left; (focus (intro wq hSw; have hrd := hSw; have e1 : wq.cell? ⟨g, 1, none⟩ = some (.slice (some ⟨rb, 0, none⟩) L.length c4) := hSw.1; have e2 : wq.cell? ⟨rb, k * 5 + 1, none⟩ = some (.int .u32 m.ad) := hSw.2; go_simp; try with_reducible rfl; done)); try simp only [Act.put, zA, zB, zC])
    (refine held_takeA 5 (by rfl) ?_ (by kernel_rfl) (fun _ _ _ h => h) hs1r ?_ ?_; rotate_left; (focus (intro wq hSw; have hrd := hSw; have e1 : wq.cell? ⟨g, 1, none⟩ = some (.slice (some ⟨rb, 0, none⟩) L.length c4) := hSw.1; have e2 : wq.cell? ⟨rb, k * 5 + 1, none⟩ = some (.int .u32 m.ad) := hSw.2; go_simp; try with_reducible rfl; done)); try simp only [Act.put, zA, zB, zC])
    (refine held_takeA 6 (by rfl) ?_ (by kernel_rfl) (fun _ _ _ h => h) hs1r ?_ ?_; rotate_left; (focus (intro wq hSw; have hrd := hSw; have e1 : wq.cell? ⟨g, 1, none⟩ = some (.slice (some ⟨rb, 0, none⟩) L.length c4) := hSw.1; have e2 : wq.cell? ⟨rb, k * 5 + 1, none⟩ = some (.int .u32 m.ad) := hSw.2; go_simp; try with_reducible rfl; done)); try simp only [Act.put, zA, zB, zC])
    (refine held_takeA 7 (by rfl) ?_ (by kernel_rfl) (fun _ _ _ h => h) hs1r ?_ ?_; rotate_left; (focus (intro wq hSw; have hrd := hSw; have e1 : wq.cell? ⟨g, 1, none⟩ = some (.slice (some ⟨rb, 0, none⟩) L.length c4) := hSw.1; have e2 : wq.cell? ⟨rb, k * 5 + 1, none⟩ = some (.int .u32 m.ad) := hSw.2; go_simp; try with_reducible rfl; done)); try simp only [Act.put, zA, zB, zC])
    (refine held_takeA 8 (by rfl) ?_ (by kernel_rfl) (fun _ _ _ h => h) hs1r ?_ ?_; rotate_left; (focus (intro wq hSw; have hrd := hSw; have e1 : wq.cell? ⟨g, 1, none⟩ = some (.slice (some ⟨rb, 0, none⟩) L.length c4) := hSw.1; have e2 : wq.cell? ⟨rb, k * 5 + 1, none⟩ = some (.int .u32 m.ad) := hSw.2; go_simp; try with_reducible rfl; done)); try simp only [Act.put, zA, zB, zC])
    (refine held_takeA 9 (by rfl) ?_ (by kernel_rfl) (fun _ _ _ h => h) hs1r ?_ ?_; rotate_left; (focus (intro wq hSw; have hrd := hSw; have e1 : wq.cell? ⟨g, 1, none⟩ = some (.slice (some ⟨rb, 0, none⟩) L.length c4) := hSw.1; have e2 : wq.cell? ⟨rb, k * 5 + 1, none⟩ = some (.int .u32 m.ad) := hSw.2; go_simp; try with_reducible rfl; done)); try simp only [Act.put, zA, zB, zC])
    (refine held_takeA 10 (by rfl) ?_ (by kernel_rfl) (fun _ _ _ h => h) hs1r ?_ ?_; rotate_left; (focus (intro wq hSw; have hrd := hSw; have e1 : wq.cell? ⟨g, 1, none⟩ = some (.slice (some ⟨rb, 0, none⟩) L.length c4) := hSw.1; have e2 : wq.cell? ⟨rb, k * 5 + 1, none⟩ = some (.int .u32 m.ad) := hSw.2; go_simp; try with_reducible rfl; done)); try simp only [Act.put, zA, zB, zC])
    (refine held_takeA 11 (by rfl) ?_ (by kernel_rfl) (fun _ _ _ h => h) hs1r ?_ ?_; rotate_left; (focus (intro wq hSw; have hrd := hSw; have e1 : wq.cell? ⟨g, 1, none⟩ = some (.slice (some ⟨rb, 0, none⟩) L.length c4) := hSw.1; have e2 : wq.cell? ⟨rb, k * 5 + 1, none⟩ = some (.int .u32 m.ad) := hSw.2; go_simp; try with_reducible rfl; done)); try simp only [Act.put, zA, zB, zC])
    (refine held_takeA 12 (by rfl) ?_ (by kernel_rfl) (fun _ _ _ h => h) hs1r ?_ ?_; rotate_left; (focus (intro wq hSw; have hrd := hSw; have e1 : wq.cell? ⟨g, 1, none⟩ = some (.slice (some ⟨rb, 0, none⟩) L.length c4) := hSw.1; have e2 : wq.cell? ⟨rb, k * 5 + 1, none⟩ = some (.int .u32 m.ad) := hSw.2; go_simp; try with_reducible rfl; done)); try simp only [Act.put, zA, zB, zC])
    (refine held_takeA 13 (by rfl) ?_ (by kernel_rfl) (fun _ _ _ h => h) hs1r ?_ ?_; rotate_left; (focus (intro wq hSw; have hrd := hSw; have e1 : wq.cell? ⟨g, 1, none⟩ = some (.slice (some ⟨rb, 0, none⟩) L.length c4) := hSw.1; have e2 : wq.cell? ⟨rb, k * 5 + 1, none⟩ = some (.int .u32 m.ad) := hSw.2; go_simp; try with_reducible rfl; done)); try simp only [Act.put, zA, zB, zC])
    (refine held_takeA 14 (by rfl) ?_ (by kernel_rfl) (fun _ _ _ h => h) hs1r ?_ ?_; rotate_left; (focus (intro wq hSw; have hrd := hSw; have e1 : wq.cell? ⟨g, 1, none⟩ = some (.slice (some ⟨rb, 0, none⟩) L.length c4) := hSw.1; have e2 : wq.cell? ⟨rb, k * 5 + 1, none⟩ = some (.int .u32 m.ad) := hSw.2; go_simp; try with_reducible rfl; done)); try simp only [Act.put, zA, zB, zC])
    (refine held_takeA 15 (by rfl) ?_ (by kernel_rfl) (fun _ _ _ h => h) hs1r ?_ ?_; rotate_left; (focus (intro wq hSw; have hrd := hSw; have e1 : wq.cell? ⟨g, 1, none⟩ = some (.slice (some ⟨rb, 0, none⟩) L.length c4) := hSw.1; have e2 : wq.cell? ⟨rb, k * 5 + 1, none⟩ = some (.int .u32 m.ad) := hSw.2; go_simp; try with_reducible rfl; done)); try simp only [Act.put, zA, zB, zC])
    (refine held_takeA 16 (by rfl) ?_ (by kernel_rfl) (fun _ _ _ h => h) hs1r ?_ ?_; rotate_left; (focus (intro wq hSw; have hrd := hSw; have e1 : wq.cell? ⟨g, 1, none⟩ = some (.slice (some ⟨rb, 0, none⟩) L.length c4) := hSw.1; have e2 : wq.cell? ⟨rb, k * 5 + 1, none⟩ = some (.int .u32 m.ad) := hSw.2; go_simp; try with_reducible rfl; done)); try simp only [Act.put, zA, zB, zC])
    (refine held_takeA 17 (by rfl) ?_ (by kernel_rfl) (fun _ _ _ h => h) hs1r ?_ ?_; rotate_left; (focus (intro wq hSw; have hrd := hSw; have e1 : wq.cell? ⟨g, 1, none⟩ = some (.slice (some ⟨rb, 0, none⟩) L.length c4) := hSw.1; have e2 : wq.cell? ⟨rb, k * 5 + 1, none⟩ = some (.int .u32 m.ad) := hSw.2; go_simp; try with_reducible rfl; done)); try simp only [Act.put, zA, zB, zC])
    (refine held_takeA 18 (by rfl) ?_ (by kernel_rfl) (fun _ _ _ h => h) hs1r ?_ ?_; rotate_left; (focus (intro wq hSw; have hrd := hSw; have e1 : wq.cell? ⟨g, 1, none⟩ = some (.slice (some ⟨rb, 0, none⟩) L.length c4) := hSw.1; have e2 : wq.cell? ⟨rb, k * 5 + 1, none⟩ = some (.int .u32 m.ad) := hSw.2; go_simp; try with_reducible rfl; done)); try simp only [Act.put, zA, zB, zC])
    (refine held_takeA 19 (by rfl) ?_ (by kernel_rfl) (fun _ _ _ h => h) hs1r ?_ ?_; rotate_left; (focus (intro wq hSw; have hrd := hSw; have e1 : wq.cell? ⟨g, 1, none⟩ = some (.slice (some ⟨rb, 0, none⟩) L.length c4) := hSw.1; have e2 : wq.cell? ⟨rb, k * 5 + 1, none⟩ = some (.int .u32 m.ad) := hSw.2; go_simp; try with_reducible rfl; done)); try simp only [Act.put, zA, zB, zC])
    (refine held_takeA 20 (by rfl) ?_ (by kernel_rfl) (fun _ _ _ h => h) hs1r ?_ ?_; rotate_left; (focus (intro wq hSw; have hrd := hSw; have e1 : wq.cell? ⟨g, 1, none⟩ = some (.slice (some ⟨rb, 0, none⟩) L.length c4) := hSw.1; have e2 : wq.cell? ⟨rb, k * 5 + 1, none⟩ = some (.int .u32 m.ad) := hSw.2; go_simp; try with_reducible rfl; done)); try simp only [Act.put, zA, zB, zC])
    refine held_callA 21 (by rfl) (by kernel_rfl) (by rfl) (fun KQ hKQ => ?_)
    refine wp_row_set (R := memK) hv5.drew hkl ⟨m.id, m.ad, wt, up, dr⟩ 240 (.tmp 46) (.tmp 45) (by rfl) (by rfl) (by rfl) (by rfl) (by exact row5) trivial ?_
    intro w6 hv6 hg6
    have hlen6 : (L.set k ⟨m.id, m.ad, wt, up, dr⟩).length = L.length := List.length_set
    rw [← hlen6] at hv6
    obtain ⟨_, _, ew, hnc6, hcm6, hS6⟩ := hv6.seen (Nat.le_refl _)
    injection ew with ew1 ew2 ew3
    subst ew1
    have hseen6 := hS6
    obtain ⟨b', off', m', eb, hb', hr', q0, q2, q3, q4, q5⟩ := mem_cells hS6 (show k < (L.set k ⟨m.id, m.ad, wt, up, dr⟩).length by omega)
    injection eb with eb
    injection eb with eb1 eb2
    subst eb1
    subst eb2
    rw [List.getElem?_set_self hkl] at hr'
    injection hr' with hr'
    subst hr'
    rw [Nat.zero_add] at q2
    have hq6 : Blk w6 g 238 #[.int .i64 pc, .slice (some ⟨rb, 0, none⟩) L.length c4] := hq5.grown (grown_trans (grown_drew (grown_refl w5 (some rb))) hg6) (by simp; omega)
    have hs2r := (And.intro (hq6.cellv 1 rfl) q2)
    refine hKQ.out _ _ hs2r ?_
    clear hKQ KQ
    try simp only [Act.put]
    refine wpAnyH_done (by kernel_rfl) ?_ _
    try refine NoPanic.normal ?_
    go_wp2_with fail
    go_ret
    rw [e.out]
    have hg56 : w5.grownBy w6 (some rb) := grown_trans (grown_drew (grown_refl w5 (some rb))) hg6
    have hz6 := hg56.size
    have hfin : w2.grownBy w6 (some g) := ⟨hg56.os.trans hB5.os, hg56.tape.trans hB5.tape, hg56.output.trans hB5.output, Nat.le_trans hB5.size hz6, fun i hi hne => (hg56.block i (Nat.lt_of_lt_of_le hi hB5.size) (by intro e; injection e with e; omega)).trans (hB5.block i hi hne)⟩
    refine ⟨rfl, ⟨some ⟨rb, 0, none⟩, L.length, c4, by omega, by omega, hq6, ?_⟩, grown_trans (grown_of_below hb (Nat.le_refl _) _) hfin⟩
    rw [← hlen6]
    exact hseen6.more fun b q => ⟨hX b (Nat.le_trans hb.size q.1), q.2⟩
end Go.Proofs.YtgdeecmhhbdjgaaGreat

/- pool: the document's Mark, Drain, Weigh, Copy, Remove. -/
namespace Go.Proofs.YtgdeecmhhbdjgaaGreat
set_option linter.unusedVariables false
open Go Go.RowKit Go.Maps

def markR (L : List Mem) (id : Int) (up : Bool) : Int × List Mem := setR L id up (getM L id).dr (getM L id).wt
def drainR (L : List Mem) (id : Int) (dr : Bool) : Int × List Mem := setR L id (getM L id).up dr (getM L id).wt
def weighR (L : List Mem) (id : Int) (wt : Int) : Int × List Mem :=
  if (decide (0 ≤ findZ L id) && !wtB wt) = true then (2, L) else setR L id (getM L id).up (getM L id).dr wt
def remR (L : List Mem) (id : Int) : Bool × List Mem := match findF L id with
  | some k => (true, L.eraseIdx k)
  | none => (false, L)
set_option maxRecDepth 100000 in
set_option maxHeartbeats 2000000 in
theorem refMark25 (w : World) (X : Nat → Prop) (g : Nat) (pc : Int) (L : List Mem) (id : Int) (u : Bool) (h : RefIn w X g pc L) (hn : L.length ≤ 100000) (hX : ∀ b, w.heap.size ≤ b → X b) :
    Calls Tryz.prog 194 #[.pointer (some ⟨g, 0, none⟩), .int .i64 id, .bool u] w fun e w' => e = .returned (.int .i64 (markR L id u).1) ∧ RefIn w' X g pc (markR L id u).2 ∧ w.grownBy w' (some g) := by
  unfold markR
  have hc := refGet25 w X g pc L id h hn
  generalize getM L id = gm at *
  unfold memC at hc
  go_enter Tryz.func194, Tryz.ntmps194
  go_upto_region 2 with (go_at_call 197; refine hc.mono ?_; rintro e w2 ⟨rfl, hb2⟩)
  have hb3 := hb2.alloc hb2.size (.cells #[.int .i64 gm.id, .int .u32 gm.ad, .int .i64 gm.wt, .bool gm.up, .bool gm.dr] 240)
  have hq := Blk.new w2 240 #[.int .i64 gm.id, .int .u32 gm.ad, .int .i64 gm.wt, .bool gm.up, .bool gm.dr]
  generalize w2.alloc (.cells #[.int .i64 gm.id, .int .u32 gm.ad, .int .i64 gm.wt, .bool gm.up, .bool gm.dr] 240) = w3 at *
  have q0 : w3.cell? ⟨w2.heap.size, 2, none⟩ = some (.int .i64 gm.wt) := hq.cellv 2 rfl
  have q1 : w3.cell? ⟨w2.heap.size, 3, none⟩ = some (.bool gm.up) := hq.cellv 3 rfl
  have q2 : w3.cell? ⟨w2.heap.size, 4, none⟩ = some (.bool gm.dr) := hq.cellv 4 rfl
  go_wp2_with (go_at_call 198; refine (refSet25 w3 X g pc L id u gm.dr gm.wt (h.nx hb3) hn (fun b q => hX b (Nat.le_trans hb3.size q))).mono ?_; rintro e w4 ⟨rfl, h4, hg4⟩)
  go_ret
  exact ⟨rfl, h4, grown_trans (grown_of_below hb3 (Nat.le_refl _) _) hg4⟩
set_option maxRecDepth 100000 in
set_option maxHeartbeats 2000000 in
theorem refDrain25 (w : World) (X : Nat → Prop) (g : Nat) (pc : Int) (L : List Mem) (id : Int) (u : Bool) (h : RefIn w X g pc L) (hn : L.length ≤ 100000) (hX : ∀ b, w.heap.size ≤ b → X b) :
    Calls Tryz.prog 125 #[.pointer (some ⟨g, 0, none⟩), .int .i64 id, .bool u] w fun e w' => e = .returned (.int .i64 (drainR L id u).1) ∧ RefIn w' X g pc (drainR L id u).2 ∧ w.grownBy w' (some g) := by
  unfold drainR
  have hc := refGet25 w X g pc L id h hn
  generalize getM L id = gm at *
  unfold memC at hc
  go_enter Tryz.func125, Tryz.ntmps125
  go_upto_region 2 with (go_at_call 197; refine hc.mono ?_; rintro e w2 ⟨rfl, hb2⟩)
  have hb3 := hb2.alloc hb2.size (.cells #[.int .i64 gm.id, .int .u32 gm.ad, .int .i64 gm.wt, .bool gm.up, .bool gm.dr] 240)
  have hq := Blk.new w2 240 #[.int .i64 gm.id, .int .u32 gm.ad, .int .i64 gm.wt, .bool gm.up, .bool gm.dr]
  generalize w2.alloc (.cells #[.int .i64 gm.id, .int .u32 gm.ad, .int .i64 gm.wt, .bool gm.up, .bool gm.dr] 240) = w3 at *
  have q0 : w3.cell? ⟨w2.heap.size, 2, none⟩ = some (.int .i64 gm.wt) := hq.cellv 2 rfl
  have q1 : w3.cell? ⟨w2.heap.size, 3, none⟩ = some (.bool gm.up) := hq.cellv 3 rfl
  have q2 : w3.cell? ⟨w2.heap.size, 4, none⟩ = some (.bool gm.dr) := hq.cellv 4 rfl
  go_wp2_with (go_at_call 198; refine (refSet25 w3 X g pc L id gm.up u gm.wt (h.nx hb3) hn (fun b q => hX b (Nat.le_trans hb3.size q))).mono ?_; rintro e w4 ⟨rfl, h4, hg4⟩)
  go_ret
  exact ⟨rfl, h4, grown_trans (grown_of_below hb3 (Nat.le_refl _) _) hg4⟩
set_option maxRecDepth 100000 in
set_option maxHeartbeats 2000000 in
theorem refWeigh25 (w : World) (X : Nat → Prop) (g : Nat) (pc : Int) (L : List Mem) (id : Int) (u : Int) (h : RefIn w X g pc L) (hn : L.length ≤ 100000) (hX : ∀ b, w.heap.size ≤ b → X b) :
    Calls Tryz.prog 126 #[.pointer (some ⟨g, 0, none⟩), .int .i64 id, .int .i64 u] w fun e w' => e = .returned (.int .i64 (weighR L id u).1) ∧ RefIn w' X g pc (weighR L id u).2 ∧ w.grownBy w' (some g) := by
  have hc := fun (w : World) (h : RefIn w X g pc L) => refGet25 w X g pc L id h hn
  generalize hgm : getM L id = gm at hc
  unfold memC at hc
  go_enter Tryz.func126, Tryz.ntmps126
  go_upto_region 1 with (fail)
  by_cases hbad : (decide (0 ≤ findZ L id) && !wtB u) = true
  · have e : weighR L id u = (2, L) := by unfold weighR; rw [if_pos hbad]
    replace e := Lib.hid e
    simp only [Bool.and_eq_true, decide_eq_true_eq, Bool.not_eq_true'] at hbad
    have h1 := hbad.1
    have h2 := hbad.2
    unfold wtB at h2
    simp only [Bool.and_eq_false_iff, decide_eq_false_iff_not] at h2
    go_wp2_with (go_at_call 191; refine (refFind25 w X g pc L id h hn).mono ?_; rintro e w2 ⟨rfl, hb⟩)
    all_goals first
      | (go_ret; rw [e.out]; exact ⟨rfl, h.nx hb, grown_of_below hb (Nat.le_refl _) _⟩)
      | (exfalso; omega)
  have e : weighR L id u = setR L id gm.up gm.dr u := by unfold weighR; rw [if_neg hbad, hgm]
  replace e := Lib.hid e
  have hgood : findZ L id < 0 ∨ (0 ≤ u ∧ u ≤ 100) := by
    simp only [Bool.and_eq_true, decide_eq_true_eq, Bool.not_eq_true', not_and, Bool.not_eq_false] at hbad
    by_cases h0 : 0 ≤ findZ L id
    · have := hbad h0
      unfold wtB at this
      simp at this
      exact .inr this
    · exact .inl (by omega)
  clear hbad
  have d1 : decide (u < 0) = decide (u < 0) := rfl
  go_upto_region 3 with (go_at_call 191; refine (refFind25 w X g pc L id h hn).mono ?_; rintro e w1 ⟨rfl, hb⟩)
  --@a show
  all_goals try (exfalso; omega)
  all_goals (
    have h1 := h.nx hb
    go_upto_region 4 with (go_at_call 197; refine (hc w1 h1).mono ?_; rintro e w2 ⟨rfl, hb2⟩)
    have hb3 := (hb.trans (hb2.mono hb.size)).alloc (Nat.le_trans hb.size hb2.size) (.cells #[.int .i64 gm.id, .int .u32 gm.ad, .int .i64 gm.wt, .bool gm.up, .bool gm.dr] 240)
    have hq := Blk.new w2 240 #[.int .i64 gm.id, .int .u32 gm.ad, .int .i64 gm.wt, .bool gm.up, .bool gm.dr]
    generalize w2.alloc (.cells #[.int .i64 gm.id, .int .u32 gm.ad, .int .i64 gm.wt, .bool gm.up, .bool gm.dr] 240) = w3 at *
    have q1 : w3.cell? ⟨w2.heap.size, 3, none⟩ = some (.bool gm.up) := hq.cellv 3 rfl
    have q2 : w3.cell? ⟨w2.heap.size, 4, none⟩ = some (.bool gm.dr) := hq.cellv 4 rfl
    go_wp2_with (go_at_call 198; refine (refSet25 w3 X g pc L id gm.up gm.dr u (h.nx hb3) hn (fun b q => hX b (Nat.le_trans hb3.size q))).mono ?_; rintro e w4 ⟨rfl, h4, hg4⟩)
    go_ret
    rw [e.out]
    exact ⟨rfl, h4, grown_trans (grown_of_below hb3 (Nat.le_refl _) _) hg4⟩)
end Go.Proofs.YtgdeecmhhbdjgaaGreat

/- pool: the document's Copy and Remove. -/
namespace Go.Proofs.YtgdeecmhhbdjgaaGreat
set_option linter.unusedVariables false
open Go Go.RowKit Go.Maps

theorem elem_row : Tryz.prog.underlying 236 = some (.slice (Tryz.prog.elem 236)) := by kernel_rfl
theorem size_row (w : World) : (sizeOf (Tryz.prog.elem 236)).run Tryz.prog w = .ok memK.size w := by kernel_rfl
set_option maxRecDepth 100000 in
set_option maxHeartbeats 2000000 in
theorem refCopy25 (w : World) (X Y : Nat → Prop) (g : Nat) (pc : Int) (L : List Mem) (h : RefIn w X g pc L) (hn : L.length ≤ 100000) (hY : ∀ b, w.heap.size ≤ b → Y b) :
    Calls Tryz.prog 134 #[.pointer (some ⟨g, 0, none⟩)] w fun e w' => ∃ g2, e = .returned (.pointer (some ⟨g2, 0, none⟩)) ∧ RefIn w' Y g2 pc L ∧ w.heap.size ≤ g2 ∧ Below w.heap.size w w' := by
  obtain ⟨A, n, c, hnc, hcm, hq, hS⟩ := h
  have hln := Lib.hid hS.1
  have hn9 : n ≤ 100000 := by have := hS.1; omega
  have c0 : w.cell? ⟨g, 0, none⟩ = some (.int .i64 pc) := hq.cellv 0 rfl
  have c1 : w.cell? ⟨g, 1, none⟩ = some (.slice A n c) := hq.cellv 1 rfl
  have ltg := hq.lt
  go_enter Tryz.func134, Tryz.ntmps134
  go_upto_region 1 with (fail)
  try refine wp_region_noPanic ?_
  have hs1r : (fun w' => Below w.heap.size w w') w.drew := (Below.refl _ _).drew
  refine wp_region_held_drew (S := fun w' => Below w.heap.size w w') (by kernel_rfl) hs1r (fun _ => ?_)
  (refine held_takeA 0 (by rfl) ?_ (by kernel_rfl) (fun _ _ _ h => h) hs1r ?_ ?_; rotate_left; (focus (intro wq hSw; have hrd := hSw; have hrd2 := zR hSw; go_simp; try with_reducible rfl; done)); try simp only [Act.put, zA, zB, zC])
  (refine held_takeA 1 (by rfl) ?_ (by kernel_rfl) (fun _ _ _ h => h) hs1r ?_ ?_; rotate_left; (focus (intro wq hSw; have hrd := hSw; have hrd2 := zR hSw; go_simp; try with_reducible rfl; done)); try simp only [Act.put, zA, zB, zC])
  (refine held_takeA 2 (by rfl) ?_ (by kernel_rfl) (fun _ _ _ h => h) hs1r ?_ ?_; rotate_left; (focus (intro wq hSw; have hrd := hSw; have hrd2 := zR hSw; go_simp; try with_reducible rfl; done)); try simp only [Act.put, zA, zB, zC])
  (refine held_takeA 3 (by rfl) ?_ (by kernel_rfl) (fun _ _ _ h => h) hs1r ?_ ?_; rotate_left; (focus (intro wq hSw; have hrd := hSw; have hrd2 := zR hSw; go_simp; try with_reducible rfl; done)); try simp only [Act.put, zA, zB, zC])
  (refine held_takeA 5 (by rfl) ?_ (by kernel_rfl) (fun _ _ _ h => h) hs1r ?_ ?_; rotate_left; (focus (intro wq hSw; have hrd := hSw; have hrd2 := zR hSw; go_simp; try with_reducible rfl; done)); try simp only [Act.put, zA, zB, zC])
  (refine held_takeA 6 (by rfl) ?_ (by kernel_rfl) (fun _ _ _ h => h) hs1r ?_ ?_; rotate_left; (focus (intro wq hSw; have hrd := hSw; have hrd2 := zR hSw; go_simp; try with_reducible rfl; done)); try simp only [Act.put, zA, zB, zC])
  (refine held_takeA 7 (by rfl) ?_ (by kernel_rfl) (fun _ _ _ h => h) hs1r ?_ ?_; rotate_left; (focus (intro wq hSw; have hrd := hSw; have hrd2 := zR hSw; go_simp; try with_reducible rfl; done)); try simp only [Act.put, zA, zB, zC])
  (refine held_takeA 8 (by rfl) ?_ (by kernel_rfl) (fun _ _ _ h => h) hs1r ?_ ?_; rotate_left; (focus (intro wq hSw; have hrd := hSw; have hrd2 := zR hSw; go_simp; try with_reducible rfl; done)); try simp only [Act.put, zA, zB, zC])
  refine held_callA 4 (by rfl) (by kernel_rfl) (by rfl) (fun KQ hKQ => ?_)
  go_simp
  have hb1 := (Below.refl w.heap.size w).drew.alloc (Nat.le_refl _) (.cells #[] 240)
  have hr0 := rows_lit5 w.drew
  have hS1 := hS.below hb1 fun b q => q.2
  have hd : (w.alloc (.cells #[] 240)).drew = w.drew.alloc (.cells #[] 240) := rfl
  try rw [hd]
  have hzz := hb1.size
  generalize w.drew.alloc (.cells #[] 240) = w1 at *
  clear hd
  have hs2r := hb1
  refine hKQ.out _ _ hs2r ?_
  clear hKQ KQ
  try simp only [Act.put, zA, zB, zC]
  refine held_callA 9 (by rfl) (by kernel_rfl) (by rfl) (fun KQ hKQ => ?_)
  refine wp_rows memRow_ok (.tmp 7) (.tmp 11) (by rfl) hr0 (by rfl) (by rfl) hS1 (fun _ _ => trivial) (by unfold maxLen; simp; omega) (by simp; omega) hzz ?_
  intro v2 w2 hv2 hg2
  rw [List.nil_append] at hv2
  have hb2 := hb1.trans (hr0.below_app hg2 hzz)
  obtain ⟨A2, c2, e2, hc2, hcm2, hS2⟩ := hv2.seen (Nat.le_refl _)
  subst e2
  have hs3r := hb2
  refine hKQ.out _ _ hs3r ?_
  clear hKQ KQ
  try simp only [Act.put, zA, zB, zC]
  (refine held_takeA 10 (by rfl) ?_ (by kernel_rfl) (fun _ _ _ h => h) hs3r ?_ ?_; rotate_left; (focus (intro wq hSw; have hrd := hSw; have hrd2 := zR hSw; go_simp; try with_reducible rfl; done)); try simp only [Act.put, zA, zB, zC])
  refine held_callA 11 (by rfl) (by kernel_rfl) (by rfl) (fun KQ hKQ => ?_)
  go_simp
  have hb3 := hb2.alloc hb2.size (.cells #[.int .i64 pc, .slice A2 L.length c2] 238)
  have hq3 := Blk.new w2 238 #[.int .i64 pc, .slice A2 L.length c2]
  have hS3 := hS2.below (w' := w2.alloc (.cells #[.int .i64 pc, .slice A2 L.length c2] 238)) ((Below.refl _ _).alloc (Nat.le_refl _) _) fun b q => q.2
  have hz3 : w2.heap.size ≤ (w2.alloc (.cells #[.int .i64 pc, .slice A2 L.length c2] 238)).heap.size := by simp
  generalize w2.alloc (.cells #[.int .i64 pc, .slice A2 L.length c2] 238) = w3 at *
  have hs4r := hb3
  refine hKQ.out _ _ hs4r ?_
  clear hKQ KQ
  try simp only [Act.put, zA, zB, zC]
  (refine held_takeA 12 (by rfl) ?_ (by kernel_rfl) (fun _ _ _ h => h) hs4r ?_ ?_; rotate_left; (focus (intro wq hSw; have hrd := hSw; have hrd2 := zR hSw; go_simp; try with_reducible rfl; done)); try simp only [Act.put, zA, zB, zC])
  refine wpAnyH_done (by kernel_rfl) ?_ _
  try refine NoPanic.normal ?_
  go_wp2_with fail
  go_ret
  exact ⟨_, rfl, ⟨A2, L.length, c2, hc2, hcm2, hq3, hS3.more fun b q => ⟨hY b q.1, Nat.lt_of_lt_of_le q.2 hz3⟩⟩, hb2.size, hb3⟩
end Go.Proofs.YtgdeecmhhbdjgaaGreat
