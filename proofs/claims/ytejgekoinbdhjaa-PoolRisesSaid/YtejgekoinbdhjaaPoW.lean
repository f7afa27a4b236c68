/- pool: the document's Get, Set, Mark, Drain, Weigh. -/
import Derived.Test.YtejgekoinbdhjaaPoV
import Derived.Test.YtejgekoinbdhjaaPoG
import Derived.Test.YtejgekoinbdhjaaRowS
namespace Go.Proofs.Ytejgekoinbdhjaa
set_option linter.unusedVariables false
open Go Go.RowKit Go.Maps

theorem findF_get {L : List Mem} {id : Int} {k : Nat} (h : findF L id = some k) : ∃ m, L[k]? = some m ∧ m.id = id := by
  induction L generalizing k with
  | nil => simp [findF] at h
  | cons a L ih =>
    unfold findF at h
    by_cases ha : a.id = id
    · rw [if_pos ha] at h
      injection h with h
      subst h
      exact ⟨a, rfl, ha⟩
    · rw [if_neg ha] at h
      obtain ⟨j, hj, rfl⟩ := Option.map_eq_some_iff.1 h
      obtain ⟨m, h1, h2⟩ := ih hj
      exact ⟨m, by simpa using h1, h2⟩
theorem findF_no {L : List Mem} {id : Int} (h : findF L id = none) : ∀ m ∈ L, m.id ≠ id := by
  induction L with
  | nil => simp
  | cons a L ih =>
    unfold findF at h
    by_cases ha : a.id = id
    · rw [if_pos ha] at h; cases h
    · rw [if_neg ha, Option.map_eq_none_iff] at h
      intro m hm
      rcases List.mem_cons.1 hm with rfl | hm
      · exact ha
      · exact ih h m hm
theorem rows_lit5 (w : World) : Rows memK (w.alloc (.cells #[] 173)) w.heap.size w.heap.size 173 (.slice (some ⟨w.heap.size, 0, none⟩) 0 0) [] :=
  ⟨by have := Own1.lit (base := w.heap.size) (et := 173) (size := 5) w #[] 0 (Nat.le_refl _) (Nat.zero_le _) rfl; exact this, by simp⟩
def zeroM : Mem := ⟨0, 0, 0, false, false⟩
/-- a member by its id; zero: there is none. -/
def getM (L : List Mem) (id : Int) : Mem := match findF L id with
  | some k => L[k]?.getD zeroM
  | none => zeroM
theorem getM_some {L : List Mem} {id : Int} {k : Nat} {m : Mem} (h : findF L id = some k) (hm : L[k]? = some m) : getM L id = m := by
  unfold getM; rw [h]; simp [hm]
theorem getM_none {L : List Mem} {id : Int} (h : findF L id = none) : getM L id = zeroM := by
  unfold getM; rw [h]
theorem row5 : (Try.prog.info? 173).map (·.size) = some 5 := by kernel_rfl
set_option maxRecDepth 100000 in
set_option maxHeartbeats 2000000 in
theorem refGet25 (w : World) (X : Nat → Prop) (g : Nat) (pc : Int) (L : List Mem) (id : Int) (h : RefIn w X g pc L) (hn : L.length ≤ 100000) :
    Calls Try.prog 105 #[.pointer (some ⟨g, 0, none⟩), .int .i64 id] w fun e w' => e = .returned (.agg (memC (getM L id))) ∧ Below w.heap.size w w' := by
  have hB := (Below.refl w.heap.size w).alloc (Nat.le_refl _) (.cells #[.int .i64 0, .int .u32 0, .int .i64 0, .bool false, .bool false] 173)
  have hr := Blk.new w 173 #[.int .i64 0, .int .u32 0, .int .i64 0, .bool false, .bool false]
  have h1 := h.nx hB
  go_enter Try.func105, Try.ntmps105
  go_upto_region 1 with (fail)
  generalize w.alloc (.cells #[.int .i64 0, .int .u32 0, .int .i64 0, .bool false, .bool false] 173) = w1 at *
  go_upto_region 2 with (go_at_call 106; refine (refFind25 w1 X g pc L id h1 hn).mono ?_; rintro e w2 ⟨rfl, hb⟩)
  have hB2 := hB.trans (hb.mono hB.size)
  have hr2 := hr.below hb hr.lt
  have h2 := h1.nx hb
  cases hf : findF L id with
  | none =>
    have hz : findZ L id = -1 := by unfold findZ; rw [hf]
    have e := Lib.hid (getM_none hf)
    rw [hz]
    go_wp2_with (refine wpList_store_blk rfl hr2 173 (.tmp 4) (.tmp 11) rfl rfl rfl rfl row5 (by simp [Value.oneCell']) ?_; intro w3 hr3 hg3)
    try rw [Exit.noGoto_ret]
    refine bodyPost_ret (results_c rfl _ rfl (load_blk hr3 Try.underlying173 rfl row5)) rfl ?_
    exact ⟨by rw [e.out]; rfl, below_own hB2 hg3 hB2.size (Nat.le_refl _)⟩
  | some k =>
    obtain ⟨m, hm, rfl⟩ := findF_get hf
    have hz : findZ L m.id = (k : Int) := by unfold findZ; rw [hf]
    have e := Lib.hid (getM_some hf hm)
    rw [hz]
    have hkl : k < L.length := (List.getElem?_eq_some_iff.1 hm).1
    obtain ⟨A, n, c, hnc, hcm, hq, hS⟩ := h2
    have hln := hS.1
    obtain ⟨b, off, m', rfl, hb', hr', q0, q1, q2, q3, q4⟩ := mem_cells hS (show k < n by omega)
    rw [hm] at hr'
    injection hr' with hr'
    subst hr'
    have hb2 : b < w2.heap.size := hb'.2
    have c1 : w2.cell? ⟨g, 1, none⟩ = some (.slice (some ⟨b, off, none⟩) n c) := hq.cellv 1 rfl
    have ltg := hq.lt
    have d0 : decide ((k : Int) < 0) = false := by simp
    have hki : (k : Int) < n := by omega
    have hk5 : k ≤ 100000 := by omega
    replace hm := Lib.hid hm
    replace hln := Lib.hid hln
    go_wp2_with (refine wpList_store_blk rfl hr2 173 (.tmp 4) (.tmp 18) rfl rfl rfl rfl row5 (by simp [Value.oneCell']) ?_; intro w3 hr3 hg3)
    try rw [Exit.noGoto_ret]
    refine bodyPost_ret (results_c rfl _ rfl (load_blk hr3 Try.underlying173 rfl row5)) rfl ?_
    exact ⟨by rw [e.out]; rfl, below_own hB2 hg3 hB2.size (Nat.le_refl _)⟩
/-- another row in the place of one. -/
def setR (L : List Mem) (id : Int) (up dr : Bool) (wt : Int) : Int × List Mem := match findF L id with
  | some k => (0, L.set k ⟨id, (L[k]?.getD zeroM).ad, wt, up, dr⟩)
  | none => (7, L)
theorem setR_some {L : List Mem} {id : Int} {k : Nat} {m : Mem} (h : findF L id = some k) (hm : L[k]? = some m) (up dr : Bool) (wt : Int) : setR L id up dr wt = (0, L.set k ⟨id, m.ad, wt, up, dr⟩) := by
  unfold setR; rw [h]; simp [hm]
set_option maxRecDepth 100000 in
set_option maxHeartbeats 4000000 in
theorem refSet25 (w : World) (X : Nat → Prop) (g : Nat) (pc : Int) (L : List Mem) (id : Int) (up dr : Bool) (wt : Int) (h : RefIn w X g pc L) (hn : L.length ≤ 100000) (hX : ∀ b, w.heap.size ≤ b → X b) :
    Calls Try.prog 169 #[.pointer (some ⟨g, 0, none⟩), .int .i64 id, .bool up, .bool dr, .int .i64 wt] w fun e w' => e = .returned (.int .i64 (setR L id up dr wt).1) ∧ RefIn w' X g pc (setR L id up dr wt).2 ∧ w.grownBy w' (some g) := by
  go_enter Try.func169, Try.ntmps169
  go_upto_region 2 with (go_at_call 106; refine (refFind25 w X g pc L id h hn).mono ?_; rintro e w2 ⟨rfl, hb⟩)
  have h2 := h.nx hb
  cases hf : findF L id with
  | none =>
    have hz : findZ L id = -1 := by unfold findZ; rw [hf]
    have e : setR L id up dr wt = (7, L) := by unfold setR; rw [hf]
    rw [hz]
    replace e := Lib.hid e
    go_wp2_with fail
    go_ret
    rw [e.out]
    exact ⟨rfl, h2, grown_of_below hb (Nat.le_refl _) _⟩
  | some k =>
    obtain ⟨m, hm, rfl⟩ := findF_get hf
    have hz : findZ L m.id = (k : Int) := by unfold findZ; rw [hf]
    have e := Lib.hid (setR_some hf hm up dr wt)
    rw [hz]
    have hkl : k < L.length := (List.getElem?_eq_some_iff.1 hm).1
    obtain ⟨A, n, c, hnc, hcm, hq, hS⟩ := h2
    have hln := hS.1
    have c1 : w2.cell? ⟨g, 1, none⟩ = some (.slice A n c) := hq.cellv 1 rfl
    have ltg := hq.lt
    have d0 : decide ((k : Int) < 0) = false := by simp
    have hb3 := (Below.refl w2.heap.size w2).alloc (Nat.le_refl _) (.cells #[] 173)
    have hr0 := rows_lit5 w2
    have hS3 := hS.below hb3 fun b q => q.2
    have hq3 := hq.below hb3 hq.lt
    have hzz := hb3.size
    have hlt2 : w2.heap.size < (w2.alloc (.cells #[] 173)).heap.size := by simp
    replace hm := Lib.hid hm
    replace hln := Lib.hid hln
    replace hz := Lib.hid hz
    have hn9 : n ≤ 100000 := by have := hln.out; omega
    clear hf
    go_upto_region 5 with (at_builtin; refine wpList_rows memRow_ok rfl (.tmp 18) (.tmp 22) rfl hr0 rfl rfl hS3 (fun _ _ => trivial) (by unfold maxLen; simp; omega) (by simp; omega) (by omega) ?_; intro v4 w4 hv4 hg4; rw [List.nil_append] at hv4; have hb4 := hr0.below_app hg4 (by omega); obtain ⟨A4, c4, e4, hc4, hcm4, hS4⟩ := hv4.seen (Nat.le_refl _); subst e4; have ltg4 : g < w4.heap.size := Nat.lt_of_lt_of_le ltg (Nat.le_trans hzz hb4.size); have hq4 := hq3.below hb4 ltg; have g0 := hq4.frozen 1; have c4' : w4.cell? ⟨g, 1, none⟩ = some (.slice A n c) := hq4.cellv 1 rfl)
    obtain ⟨hq5, hg5⟩ := blk_store hq4 1 (.slice A4 L.length c4)
    replace hq5 : Blk (w4.setCell ⟨g, 1, none⟩ (.slice A4 L.length c4)) g 171 #[.int .i64 pc, .slice A4 L.length c4] := hq5
    have hv5 := hv4.kept hg5 (fun k' e => by injection e with e; omega) (Nat.le_refl _)
    have hB5 : w2.grownBy (w4.setCell ⟨g, 1, none⟩ (.slice A4 L.length c4)) (some g) := grown_trans (grown_of_below (hb3.trans (hb4.mono (Nat.le_refl _))) (Nat.le_refl _) _) hg5
    clear c4' g0 hq4 hg5 hS4 hv4
    generalize w4.setCell ⟨g, 1, none⟩ (.slice A4 L.length c4) = w5 at *
    obtain ⟨rb, cap, ef, hrb, hrlt, _, _⟩ := hv5.1.form (by omega)
    injection ef with ef1 ef2 ef3
    subst ef1
    subst ef3
    obtain ⟨_, _, ev, _, _, hS5⟩ := hv5.seen (Nat.le_refl _)
    injection ev with ev1 ev2 ev3
    subst ev1
    obtain ⟨b', off', m', eb, hb', hr', q0, q1, q2, q3, q4⟩ := mem_cells hS5 hkl
    injection eb with eb
    injection eb with eb1 eb2
    subst eb1
    subst eb2
    rw [hm.out] at hr'
    injection hr' with hr'
    subst hr'
    rw [Nat.zero_add] at q1
    have c5 : w5.cell? ⟨g, 1, none⟩ = some (.slice (some ⟨rb, 0, none⟩) L.length c4) := hq5.cellv 1 rfl
    have ltg5 := hq5.lt
    have hgr : g ≠ rb := by omega
    have hki : (k : Int) < L.length := by omega
    clear q0 q2 q3 q4
    -- region 5: 0 1 2 3 4 5 6 7 8 9 10 11 12 13 14 15 16 17 18 19 20 21M
    try refine wp_region_noPanic ?_
    have hs1r : (fun w' => w'.cell? ⟨g, 1, none⟩ = some (.slice (some ⟨rb, 0, none⟩) L.length c4) ∧ w'.cell? ⟨rb, k * 5 + 1, none⟩ = some (.int .u32 m.ad)) w5.drew := ⟨c5, q1⟩
    refine wp_region_held_drew (S := fun w' => w'.cell? ⟨g, 1, none⟩ = some (.slice (some ⟨rb, 0, none⟩) L.length c4) ∧ w'.cell? ⟨rb, k * 5 + 1, none⟩ = some (.int .u32 m.ad)) (by kernel_rfl) hs1r (fun _ => ?_)
    (refine held_takeA 0 (by rfl) ?_ (by kernel_rfl) (fun _ _ _ h => h) hs1r ?_ ?_; rotate_left; (focus (intro wq hSw; have hrd := hSw; have e1 : wq.cell? ⟨g, 1, none⟩ = some (.slice (some ⟨rb, 0, none⟩) L.length c4) := hSw.1; have e2 : wq.cell? ⟨rb, k * 5 + 1, none⟩ = some (.int .u32 m.ad) := hSw.2; go_simp; try with_reducible rfl; done)); try simp only [Act.put, List.setIfInBounds_toArray, List.set_cons_zero, List.set_cons_succ])
    (refine held_takeA 1 (by rfl) ?_ (by kernel_rfl) (fun _ _ _ h => h) hs1r ?_ ?_; rotate_left; (focus (intro wq hSw; have hrd := hSw; have e1 : wq.cell? ⟨g, 1, none⟩ = some (.slice (some ⟨rb, 0, none⟩) L.length c4) := hSw.1; have e2 : wq.cell? ⟨rb, k * 5 + 1, none⟩ = some (.int .u32 m.ad) := hSw.2; go_simp; try with_reducible rfl; done)); try simp only [Act.put, List.setIfInBounds_toArray, List.set_cons_zero, List.set_cons_succ])
    (refine held_takeA 2 (by rfl) ?_ (by kernel_rfl) (fun _ _ _ h => h) hs1r ?_ ?_; rotate_left; (focus (intro wq hSw; have hrd := hSw; have e1 : wq.cell? ⟨g, 1, none⟩ = some (.slice (some ⟨rb, 0, none⟩) L.length c4) := hSw.1; have e2 : wq.cell? ⟨rb, k * 5 + 1, none⟩ = some (.int .u32 m.ad) := hSw.2; go_simp; try with_reducible rfl; done)); try simp only [Act.put, List.setIfInBounds_toArray, List.set_cons_zero, List.set_cons_succ])
    (refine held_takeA 3 (by rfl) ?_ (by kernel_rfl) (fun _ _ _ h => h) hs1r ?_ ?_; rotate_left; (focus (intro wq hSw; have hrd := hSw; have e1 : wq.cell? ⟨g, 1, none⟩ = some (.slice (some ⟨rb, 0, none⟩) L.length c4) := hSw.1; have e2 : wq.cell? ⟨rb, k * 5 + 1, none⟩ = some (.int .u32 m.ad) := hSw.2; go_simp; try with_reducible rfl; done)); try simp only [Act.put, List.setIfInBounds_toArray, List.set_cons_zero, List.set_cons_succ])
    (refine held_takeA 4 (by rfl) ?_ (by kernel_rfl) (fun _ _ _ h => h) hs1r ?_ ?_; rotate_left; (focus (intro wq hSw; have hrd := hSw; have e1 : wq.cell? ⟨g, 1, none⟩ = some (.slice (some ⟨rb, 0, none⟩) L.length c4) := hSw.1; have e2 : wq.cell? ⟨rb, k * 5 + 1, none⟩ = some (.int .u32 m.ad) := hSw.2; go_simp; try with_reducible rfl; done)); try simp only [Act.put, List.setIfInBounds_toArray, List.set_cons_zero, List.set_cons_succ])
    (refine held_takeA 5 (by rfl) ?_ (by kernel_rfl) (fun _ _ _ h => h) hs1r ?_ ?_; rotate_left; (focus (intro wq hSw; have hrd := hSw; have e1 : wq.cell? ⟨g, 1, none⟩ = some (.slice (some ⟨rb, 0, none⟩) L.length c4) := hSw.1; have e2 : wq.cell? ⟨rb, k * 5 + 1, none⟩ = some (.int .u32 m.ad) := hSw.2; go_simp; try with_reducible rfl; done)); try simp only [Act.put, List.setIfInBounds_toArray, List.set_cons_zero, List.set_cons_succ])
    (refine held_takeA 6 (by rfl) ?_ (by kernel_rfl) (fun _ _ _ h => h) hs1r ?_ ?_; rotate_left; (focus (intro wq hSw; have hrd := hSw; have e1 : wq.cell? ⟨g, 1, none⟩ = some (.slice (some ⟨rb, 0, none⟩) L.length c4) := hSw.1; have e2 : wq.cell? ⟨rb, k * 5 + 1, none⟩ = some (.int .u32 m.ad) := hSw.2; go_simp; try with_reducible rfl; done)); try simp only [Act.put, List.setIfInBounds_toArray, List.set_cons_zero, List.set_cons_succ])
    (refine held_takeA 7 (by rfl) ?_ (by kernel_rfl) (fun _ _ _ h => h) hs1r ?_ ?_; rotate_left; (focus (intro wq hSw; have hrd := hSw; have e1 : wq.cell? ⟨g, 1, none⟩ = some (.slice (some ⟨rb, 0, none⟩) L.length c4) := hSw.1; have e2 : wq.cell? ⟨rb, k * 5 + 1, none⟩ = some (.int .u32 m.ad) := hSw.2; go_simp; try with_reducible rfl; done)); try simp only [Act.put, List.setIfInBounds_toArray, List.set_cons_zero, List.set_cons_succ])
    (refine held_takeA 8 (by rfl) ?_ (by kernel_rfl) (fun _ _ _ h => h) hs1r ?_ ?_; rotate_left; (focus (intro wq hSw; have hrd := hSw; have e1 : wq.cell? ⟨g, 1, none⟩ = some (.slice (some ⟨rb, 0, none⟩) L.length c4) := hSw.1; have e2 : wq.cell? ⟨rb, k * 5 + 1, none⟩ = some (.int .u32 m.ad) := hSw.2; go_simp; try with_reducible rfl; done)); try simp only [Act.put, List.setIfInBounds_toArray, List.set_cons_zero, List.set_cons_succ])
    (refine held_takeA 9 (by rfl) ?_ (by kernel_rfl) (fun _ _ _ h => h) hs1r ?_ ?_; rotate_left; (focus (intro wq hSw; have hrd := hSw; have e1 : wq.cell? ⟨g, 1, none⟩ = some (.slice (some ⟨rb, 0, none⟩) L.length c4) := hSw.1; have e2 : wq.cell? ⟨rb, k * 5 + 1, none⟩ = some (.int .u32 m.ad) := hSw.2; go_simp; try with_reducible rfl; done)); try simp only [Act.put, List.setIfInBounds_toArray, List.set_cons_zero, List.set_cons_succ])
    (refine held_takeA 10 (by rfl) ?_ (by kernel_rfl) (fun _ _ _ h => h) hs1r ?_ ?_; rotate_left; (focus (intro wq hSw; have hrd := hSw; have e1 : wq.cell? ⟨g, 1, none⟩ = some (.slice (some ⟨rb, 0, none⟩) L.length c4) := hSw.1; have e2 : wq.cell? ⟨rb, k * 5 + 1, none⟩ = some (.int .u32 m.ad) := hSw.2; go_simp; try with_reducible rfl; done)); try simp only [Act.put, List.setIfInBounds_toArray, List.set_cons_zero, List.set_cons_succ])
    (refine held_takeA 11 (by rfl) ?_ (by kernel_rfl) (fun _ _ _ h => h) hs1r ?_ ?_; rotate_left; (focus (intro wq hSw; have hrd := hSw; have e1 : wq.cell? ⟨g, 1, none⟩ = some (.slice (some ⟨rb, 0, none⟩) L.length c4) := hSw.1; have e2 : wq.cell? ⟨rb, k * 5 + 1, none⟩ = some (.int .u32 m.ad) := hSw.2; go_simp; try with_reducible rfl; done)); try simp only [Act.put, List.setIfInBounds_toArray, List.set_cons_zero, List.set_cons_succ])
    (refine held_takeA 12 (by rfl) ?_ (by kernel_rfl) (fun _ _ _ h => h) hs1r ?_ ?_; rotate_left; (focus (intro wq hSw; have hrd := hSw; have e1 : wq.cell? ⟨g, 1, none⟩ = some (.slice (some ⟨rb, 0, none⟩) L.length c4) := hSw.1; have e2 : wq.cell? ⟨rb, k * 5 + 1, none⟩ = some (.int .u32 m.ad) := hSw.2; go_simp; try with_reducible rfl; done)); try simp only [Act.put, List.setIfInBounds_toArray, List.set_cons_zero, List.set_cons_succ])
    (refine held_takeA 13 (by rfl) ?_ (by kernel_rfl) (fun _ _ _ h => h) hs1r ?_ ?_; rotate_left; (focus (intro wq hSw; have hrd := hSw; have e1 : wq.cell? ⟨g, 1, none⟩ = some (.slice (some ⟨rb, 0, none⟩) L.length c4) := hSw.1; have e2 : wq.cell? ⟨rb, k * 5 + 1, none⟩ = some (.int .u32 m.ad) := hSw.2; go_simp; try with_reducible rfl; done)); try simp only [Act.put, List.setIfInBounds_toArray, List.set_cons_zero, List.set_cons_succ])
    (refine held_takeA 14 (by rfl) ?_ (by kernel_rfl) (fun _ _ _ h => h) hs1r ?_ ?_; rotate_left; (focus (intro wq hSw; have hrd := hSw; have e1 : wq.cell? ⟨g, 1, none⟩ = some (.slice (some ⟨rb, 0, none⟩) L.length c4) := hSw.1; have e2 : wq.cell? ⟨rb, k * 5 + 1, none⟩ = some (.int .u32 m.ad) := hSw.2; go_simp; try with_reducible rfl; done)); try simp only [Act.put, List.setIfInBounds_toArray, List.set_cons_zero, List.set_cons_succ])
    (refine held_takeA 15 (by rfl) ?_ (by kernel_rfl) (fun _ _ _ h => h) hs1r ?_ ?_; rotate_left; (focus (intro wq hSw; have hrd := hSw; have e1 : wq.cell? ⟨g, 1, none⟩ = some (.slice (some ⟨rb, 0, none⟩) L.length c4) := hSw.1; have e2 : wq.cell? ⟨rb, k * 5 + 1, none⟩ = some (.int .u32 m.ad) := hSw.2; go_simp; try with_reducible rfl; done)); try simp only [Act.put, List.setIfInBounds_toArray, List.set_cons_zero, List.set_cons_succ])
    (refine held_takeA 16 (by rfl) ?_ (by kernel_rfl) (fun _ _ _ h => h) hs1r ?_ ?_; rotate_left; (focus (intro wq hSw; have hrd := hSw; have e1 : wq.cell? ⟨g, 1, none⟩ = some (.slice (some ⟨rb, 0, none⟩) L.length c4) := hSw.1; have e2 : wq.cell? ⟨rb, k * 5 + 1, none⟩ = some (.int .u32 m.ad) := hSw.2; go_simp; try with_reducible rfl; done)); try simp only [Act.put, List.setIfInBounds_toArray, List.set_cons_zero, List.set_cons_succ])
    (refine held_takeA 17 (by rfl) ?_ (by kernel_rfl) (fun _ _ _ h => h) hs1r ?_ ?_; rotate_left; (focus (intro wq hSw; have hrd := hSw; have e1 : wq.cell? ⟨g, 1, none⟩ = some (.slice (some ⟨rb, 0, none⟩) L.length c4) := hSw.1; have e2 : wq.cell? ⟨rb, k * 5 + 1, none⟩ = some (.int .u32 m.ad) := hSw.2; go_simp; try with_reducible rfl; done)); try simp only [Act.put, List.setIfInBounds_toArray, List.set_cons_zero, List.set_cons_succ])
    (refine held_takeA 18 (by rfl) ?_ (by kernel_rfl) (fun _ _ _ h => h) hs1r ?_ ?_; rotate_left; (focus (intro wq hSw; have hrd := hSw; have e1 : wq.cell? ⟨g, 1, none⟩ = some (.slice (some ⟨rb, 0, none⟩) L.length c4) := hSw.1; have e2 : wq.cell? ⟨rb, k * 5 + 1, none⟩ = some (.int .u32 m.ad) := hSw.2; go_simp; try with_reducible rfl; done)); try simp only [Act.put, List.setIfInBounds_toArray, List.set_cons_zero, List.set_cons_succ])
    (refine held_takeA 19 (by rfl) ?_ (by kernel_rfl) (fun _ _ _ h => h) hs1r ?_ ?_; rotate_left; (focus (intro wq hSw; have hrd := hSw; have e1 : wq.cell? ⟨g, 1, none⟩ = some (.slice (some ⟨rb, 0, none⟩) L.length c4) := hSw.1; have e2 : wq.cell? ⟨rb, k * 5 + 1, none⟩ = some (.int .u32 m.ad) := hSw.2; go_simp; try with_reducible rfl; done)); try simp only [Act.put, List.setIfInBounds_toArray, List.set_cons_zero, List.set_cons_succ])
    (refine held_takeA 20 (by rfl) ?_ (by kernel_rfl) (fun _ _ _ h => h) hs1r ?_ ?_; rotate_left; (focus (intro wq hSw; have hrd := hSw; have e1 : wq.cell? ⟨g, 1, none⟩ = some (.slice (some ⟨rb, 0, none⟩) L.length c4) := hSw.1; have e2 : wq.cell? ⟨rb, k * 5 + 1, none⟩ = some (.int .u32 m.ad) := hSw.2; go_simp; try with_reducible rfl; done)); try simp only [Act.put, List.setIfInBounds_toArray, List.set_cons_zero, List.set_cons_succ])
    refine held_callA 21 (by rfl) (by kernel_rfl) (by rfl) (fun KQ hKQ => ?_)
    refine wp_row_set (R := memK) hv5.drew hkl ⟨m.id, m.ad, wt, up, dr⟩ 173 (.tmp 46) (.tmp 45) (by rfl) (by rfl) (by rfl) (by rfl) (by exact row5) trivial ?_
    intro w6 hv6 hg6
    have hlen6 : (L.set k ⟨m.id, m.ad, wt, up, dr⟩).length = L.length := List.length_set
    rw [← hlen6] at hv6
    obtain ⟨_, _, ew, hnc6, hcm6, hS6⟩ := hv6.seen (Nat.le_refl _)
    injection ew with ew1 ew2 ew3
    subst ew1
    have hseen6 := hS6
    obtain ⟨b', off', m', eb, hb', hr', q0, q2, q3, q4, q5⟩ := mem_cells hS6 (show k < (L.set k ⟨m.id, m.ad, wt, up, dr⟩).length by omega)
    injection eb with eb
    injection eb with eb1 eb2
    subst eb1
    subst eb2
    rw [List.getElem?_set_self hkl] at hr'
    injection hr' with hr'
    subst hr'
    rw [Nat.zero_add] at q2
    have hq6 : Blk w6 g 171 #[.int .i64 pc, .slice (some ⟨rb, 0, none⟩) L.length c4] := hq5.grown (grown_trans (grown_drew (grown_refl w5 (some rb))) hg6) (by simp; omega)
    have hs2r := (And.intro (hq6.cellv 1 rfl) q2)
    refine hKQ.out _ _ hs2r ?_
    clear hKQ KQ
    try simp only [Act.put]
    refine wpAnyH_done (by kernel_rfl) ?_ _
    try refine NoPanic.normal ?_
    go_wp2_with fail
    go_ret
    rw [e.out]
    have hg56 : w5.grownBy w6 (some rb) := grown_trans (grown_drew (grown_refl w5 (some rb))) hg6
    have hz6 := hg56.size
    have hfin : w2.grownBy w6 (some g) := ⟨hg56.os.trans hB5.os, hg56.tape.trans hB5.tape, hg56.output.trans hB5.output, Nat.le_trans hB5.size hz6, fun i hi hne => (hg56.block i (Nat.lt_of_lt_of_le hi hB5.size) (by intro e; injection e with e; omega)).trans (hB5.block i hi hne)⟩
    refine ⟨rfl, ⟨some ⟨rb, 0, none⟩, L.length, c4, by omega, by omega, hq6, ?_⟩, grown_trans (grown_of_below hb (Nat.le_refl _) _) hfin⟩
    rw [← hlen6]
    exact hseen6.more fun b q => ⟨hX b (Nat.le_trans hb.size q.1), q.2⟩
end Go.Proofs.Ytejgekoinbdhjaa
