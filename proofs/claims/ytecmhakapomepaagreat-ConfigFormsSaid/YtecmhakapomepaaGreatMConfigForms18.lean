import Derived.Test.YtecmhakapomepaaGreatMConfigForms17
/- config: sibling.Add; part 5. -/
namespace Go.Proofs.YtecmhakapomepaaGreat
set_option linter.unusedVariables false
open Go Go.RowKit Go.Maps

theorem smap_und : Tryz.prog.underlying 189 = some (.map 3 72) := Tryz.underlying189
@[go_sem] theorem make_smap (w : World) : (Instr.makeMap 189 none).run Tryz.prog w = .ok (.map (some w.heap.size)) (w.alloc (.map #[] 0)) := rfl
@[go_sem] theorem make_srmap (w : World) : (Instr.makeMap 190 none).run Tryz.prog w = .ok (.map (some w.heap.size)) (w.alloc (.map #[] 0)) := rfl
@[go_sem] theorem neq_smap (m : Option Nat) (w : World) : (binOp .neq 189 (.map m) (.map none)).run Tryz.prog w = .ok (.bool (!m.isNone)) w := Go.run_neq_map_nil w _ _ _ m smap_und
theorem site_zero (w : World) : (zeroValue 72).run Tryz.prog w = .ok (.agg #[.int .i64 0, .int .u32 0, .int .i64 0]) w := by kernel_rfl
def siteA (s : SiteV) : Array Value := #[.int .i64 s.id, .int .u32 s.ad, .int .i64 s.cost]
def siteE (s : SiteV) : Value × Value := (.int .i64 s.id, .agg (siteA s))
/-- block g is the table of these sites, in map b; r the reports. -/
def SibIn (w : World) (g b r : Nat) (M : List SiteV) : Prop := Blk w g 192 #[.map (some b), .map (some r)] ∧ Ent Tryz.prog 3 w b (M.map siteE)
section
variable {w w' : World} {g b r : Nat} {M : List SiteV}
theorem SibIn.ltg (h : SibIn w g b r M) : g < w.heap.size := h.1.lt
theorem SibIn.ltb (h : SibIn w g b r M) : b < w.heap.size := h.2.lt
theorem SibIn.nx (h : SibIn w g b r M) (hb : Below w.heap.size w w') : SibIn w' g b r M := ⟨h.1.below hb h.ltg, h.2.below hb h.ltb⟩
end
theorem sMade_in {w : World} {g b r : Nat} {M : List SiteV} (h : SibIn w g b r M) : Calls Tryz.prog 120 #[.pointer (some ⟨g, 0, none⟩)] w fun e w' => e = .returned (.bool true) ∧ w = w' := by
  have c0 : w.cell? ⟨g, 0, none⟩ = some (.map (some b)) := h.1.cellv 0 rfl
  have ltg := h.ltg
  go_enter Tryz.func120, Tryz.ntmps120
  go_wp2_with fail
  go_ret
  exact ⟨rfl, rfl⟩
theorem sIn_any (n m : Int) (w : World) : Calls Tryz.prog 121 #[.int .i64 n, .int .i64 m] w fun e w' => e = .returned (.bool (rngB 0 m n)) ∧ w = w' := by
  go_enter Tryz.func121, Tryz.ntmps121
  go_wp2_with fail
  all_goals go_ret
  all_goals (refine ⟨ret_bool ?_, rfl⟩; unfold rngB; rw [Bool.eq_iff_iff]; simp <;> omega)
theorem no_sid {M : List SiteV} {id : Int} (h : ∀ m ∈ M, m.id ≠ id) : (Value.int .i64 id) ∉ (M.map siteE).map Prod.fst := by
  rw [List.map_map]
  intro hm
  obtain ⟨m, h1, h2⟩ := List.mem_map.1 hm
  simp only [Function.comp, siteE, Value.int.injEq] at h2
  exact h m h1 h2.2
theorem is_sid {M : List SiteV} {m : SiteV} (h : m ∈ M) : (Value.int .i64 m.id, Value.agg (siteA m)) ∈ M.map siteE := List.mem_map.2 ⟨m, h, rfl⟩
/-- what Add answers. -/
def sAddV (M : List SiteV) (s : SiteV) : Int := if siteOk s = false then 2 else if (M.map SiteV.id).contains s.id = true then 13 else if 8 ≤ M.length then 6 else 0
def sAddM (M : List SiteV) (s : SiteV) : List SiteV := if sAddV M s = 0 then M ++ [s] else M
set_option maxRecDepth 100000 in
set_option maxHeartbeats 4000000 in
theorem sAdd_there (w : World) (g b r : Nat) (M : List SiteV) (s : SiteV) (h : SibIn w g b r M) (hI : IsI s.id) (m : SiteV) (hm : m ∈ M) (hid : m.id = s.id) :
    Calls Tryz.prog 93 #[.pointer (some ⟨g, 0, none⟩), .agg #[.int .i64 s.id, .int .u32 s.ad, .int .i64 s.cost]] w fun e w' => e = .returned (.int .i64 (sAddV M s)) ∧ SibIn w' g b r (sAddM M s) ∧ w.grownBy w' (some b) := by
  have hi5 : (Tryz.prog.info? 72).map (·.size) = some 3 := by kernel_rfl
  have hB := (Below.refl w.heap.size w).alloc (Nat.le_refl _) (.cells #[.int .i64 s.id, .int .u32 s.ad, .int .i64 s.cost] 72)
  have hp := Blk.new w 72 #[.int .i64 s.id, .int .u32 s.ad, .int .i64 s.cost]
  have h1 := h.nx hB
  have hgb : g ≠ b := by
    intro e
    obtain ⟨es, clock, he, _⟩ := h.2
    rw [← e] at he
    have h9 := h.1.symm.trans he
    injection h9 with h9
    cases h9
  have hk := int_lit s.id hI.1 hI.2
  have hcon : (M.map SiteV.id).contains s.id = true := by
    rw [List.contains_iff_mem]
    exact List.mem_map.2 ⟨m, hm, hid⟩
  go_enter Tryz.func93, Tryz.ntmps93
  go_upto_region 1 with (fail)
  generalize w.alloc (.cells #[.int .i64 s.id, .int .u32 s.ad, .int .i64 s.cost] 72) = w1 at *
  have p0 : w1.cell? ⟨w.heap.size, 0, none⟩ = some (.int .i64 s.id) := hp.cellv 0 rfl
  have c1 : w1.cell? ⟨g, 0, none⟩ = some (.map (some b)) := h1.1.cellv 0 rfl
  have ltp := hp.lt
  have ltg := h1.ltg
  have ltb := h1.ltb
  go_upto_region 3 with (go_at_call 120; refine (sMade_in h1).mono ?_; rintro e w' ⟨rfl, rfl⟩)
  have hm2 := is_sid hm
  rw [hid] at hm2
  unfold siteA at hm2
  -- region 3: 0 1 2 3 4 5 6 7 8 9 10M 11M 12
  try refine wp_region_noPanic ?_
  have hs1r : (fun w' => Below w1.heap.size w1 w') w1.drew := (Below.refl _ _).drew
  refine wp_region_held_drew (S := fun w' => Below w1.heap.size w1 w') (by kernel_rfl) hs1r (fun _ => ?_)
  (refine held_takeA 0 (by rfl) ?_ (by kernel_rfl) (fun _ _ _ h => h) hs1r ?_ ?_; rotate_left; (focus (intro wq hSw; have hrd := hSw; have hrd2 : ∀ b o, b < w1.heap.size → wq.cell? ⟨b, o, none⟩ = w1.cell? ⟨b, o, none⟩ := (fun b o h => Below.cell hSw (p := ⟨b, o, none⟩) h); have hlk := (h1.2.below hSw ltb).hit1 int_key smap_und hk hm2; go_simp; try with_reducible rfl; done)); try simp only [Act.put, List.setIfInBounds_toArray, List.set_cons_zero, List.set_cons_succ])
  (refine held_takeA 1 (by rfl) ?_ (by kernel_rfl) (fun _ _ _ h => h) hs1r ?_ ?_; rotate_left; (focus (intro wq hSw; have hrd := hSw; have hrd2 : ∀ b o, b < w1.heap.size → wq.cell? ⟨b, o, none⟩ = w1.cell? ⟨b, o, none⟩ := (fun b o h => Below.cell hSw (p := ⟨b, o, none⟩) h); have hlk := (h1.2.below hSw ltb).hit1 int_key smap_und hk hm2; go_simp; try with_reducible rfl; done)); try simp only [Act.put, List.setIfInBounds_toArray, List.set_cons_zero, List.set_cons_succ])
  (refine held_takeA 2 (by rfl) ?_ (by kernel_rfl) (fun _ _ _ h => h) hs1r ?_ ?_; rotate_left; (focus (intro wq hSw; have hrd := hSw; have hrd2 : ∀ b o, b < w1.heap.size → wq.cell? ⟨b, o, none⟩ = w1.cell? ⟨b, o, none⟩ := (fun b o h => Below.cell hSw (p := ⟨b, o, none⟩) h); have hlk := (h1.2.below hSw ltb).hit1 int_key smap_und hk hm2; go_simp; try with_reducible rfl; done)); try simp only [Act.put, List.setIfInBounds_toArray, List.set_cons_zero, List.set_cons_succ])
  (refine held_takeA 3 (by rfl) ?_ (by kernel_rfl) (fun _ _ _ h => h) hs1r ?_ ?_; rotate_left; (focus (intro wq hSw; have hrd := hSw; have hrd2 : ∀ b o, b < w1.heap.size → wq.cell? ⟨b, o, none⟩ = w1.cell? ⟨b, o, none⟩ := (fun b o h => Below.cell hSw (p := ⟨b, o, none⟩) h); have hlk := (h1.2.below hSw ltb).hit1 int_key smap_und hk hm2; go_simp; try with_reducible rfl; done)); try simp only [Act.put, List.setIfInBounds_toArray, List.set_cons_zero, List.set_cons_succ])
  (refine held_takeA 4 (by rfl) ?_ (by kernel_rfl) (fun _ _ _ h => h) hs1r ?_ ?_; rotate_left; (focus (intro wq hSw; have hrd := hSw; have hrd2 : ∀ b o, b < w1.heap.size → wq.cell? ⟨b, o, none⟩ = w1.cell? ⟨b, o, none⟩ := (fun b o h => Below.cell hSw (p := ⟨b, o, none⟩) h); have hlk := (h1.2.below hSw ltb).hit1 int_key smap_und hk hm2; go_simp; try with_reducible rfl; done)); try simp only [Act.put, List.setIfInBounds_toArray, List.set_cons_zero, List.set_cons_succ])
  (refine held_takeA 5 (by rfl) ?_ (by kernel_rfl) (fun _ _ _ h => h) hs1r ?_ ?_; rotate_left; (focus (intro wq hSw; have hrd := hSw; have hrd2 : ∀ b o, b < w1.heap.size → wq.cell? ⟨b, o, none⟩ = w1.cell? ⟨b, o, none⟩ := (fun b o h => Below.cell hSw (p := ⟨b, o, none⟩) h); have hlk := (h1.2.below hSw ltb).hit1 int_key smap_und hk hm2; go_simp; try with_reducible rfl; done)); try simp only [Act.put, List.setIfInBounds_toArray, List.set_cons_zero, List.set_cons_succ])
  (refine held_takeA 6 (by rfl) ?_ (by kernel_rfl) (fun _ _ _ h => h) hs1r ?_ ?_; rotate_left; (focus (intro wq hSw; have hrd := hSw; have hrd2 : ∀ b o, b < w1.heap.size → wq.cell? ⟨b, o, none⟩ = w1.cell? ⟨b, o, none⟩ := (fun b o h => Below.cell hSw (p := ⟨b, o, none⟩) h); have hlk := (h1.2.below hSw ltb).hit1 int_key smap_und hk hm2; go_simp; try with_reducible rfl; done)); try simp only [Act.put, List.setIfInBounds_toArray, List.set_cons_zero, List.set_cons_succ])
  (refine held_takeA 7 (by rfl) ?_ (by kernel_rfl) (fun _ _ _ h => h) hs1r ?_ ?_; rotate_left; (focus (intro wq hSw; have hrd := hSw; have hrd2 : ∀ b o, b < w1.heap.size → wq.cell? ⟨b, o, none⟩ = w1.cell? ⟨b, o, none⟩ := (fun b o h => Below.cell hSw (p := ⟨b, o, none⟩) h); have hlk := (h1.2.below hSw ltb).hit1 int_key smap_und hk hm2; go_simp; try with_reducible rfl; done)); try simp only [Act.put, List.setIfInBounds_toArray, List.set_cons_zero, List.set_cons_succ])
  (refine held_takeA 8 (by rfl) ?_ (by kernel_rfl) (fun _ _ _ h => h) hs1r ?_ ?_; rotate_left; (focus (intro wq hSw; have hrd := hSw; have hrd2 : ∀ b o, b < w1.heap.size → wq.cell? ⟨b, o, none⟩ = w1.cell? ⟨b, o, none⟩ := (fun b o h => Below.cell hSw (p := ⟨b, o, none⟩) h); have hlk := (h1.2.below hSw ltb).hit1 int_key smap_und hk hm2; go_simp; try with_reducible rfl; done)); try simp only [Act.put, List.setIfInBounds_toArray, List.set_cons_zero, List.set_cons_succ])
  (refine held_takeA 9 (by rfl) ?_ (by kernel_rfl) (fun _ _ _ h => h) hs1r ?_ ?_; rotate_left; (focus (intro wq hSw; have hrd := hSw; have hrd2 : ∀ b o, b < w1.heap.size → wq.cell? ⟨b, o, none⟩ = w1.cell? ⟨b, o, none⟩ := (fun b o h => Below.cell hSw (p := ⟨b, o, none⟩) h); have hlk := (h1.2.below hSw ltb).hit1 int_key smap_und hk hm2; go_simp; try with_reducible rfl; done)); try simp only [Act.put, List.setIfInBounds_toArray, List.set_cons_zero, List.set_cons_succ])
  refine held_callA 10 (by rfl) (by kernel_rfl) (by rfl) (fun KQ hKQ => ?_)
  go_simp
  have hw2 := (Below.refl w1.heap.size w1).drew.alloc (Nat.le_refl _) (.cells #[.int .i64 0, .int .u32 0, .int .i64 0] 72)
  have hr := Blk.new w1.drew 72 #[.int .i64 0, .int .u32 0, .int .i64 0]
  have hd : (w1.alloc (.cells #[.int .i64 0, .int .u32 0, .int .i64 0] 72)).drew = w1.drew.alloc (.cells #[.int .i64 0, .int .u32 0, .int .i64 0] 72) := rfl
  rw [hd]
  generalize w1.drew.alloc (.cells #[.int .i64 0, .int .u32 0, .int .i64 0] 72) = w2 at *
  clear hd
  have hs2r := hw2
  refine hKQ.out _ _ hs2r ?_
  clear hKQ KQ
  try simp only [Act.put, List.setIfInBounds_toArray, List.set_cons_zero, List.set_cons_succ]
  refine held_callA 11 (by rfl) (by kernel_rfl) (by rfl) (fun KQ hKQ => ?_)
  refine wp_store_blk hr 72 (.tmp 5) (.tmp 18) (by rfl) (by rfl) (by rfl) (by rfl) (by exact hi5) (by simp [Value.oneCell']) ?_
  intro w3 hr3 hg3
  have hw3 := below_own hw2 hg3 hw2.size (Nat.le_refl _)
  have hs3r := hw3
  refine hKQ.out _ _ hs3r ?_
  clear hKQ KQ
  try simp only [Act.put]
  (refine held_takeA 12 (by rfl) ?_ (by kernel_rfl) (fun _ _ _ h => h) hs3r ?_ ?_; rotate_left; (focus (intro wq hSw; have hrd := hSw; have hrd2 : ∀ b o, b < w1.heap.size → wq.cell? ⟨b, o, none⟩ = w1.cell? ⟨b, o, none⟩ := (fun b o h => Below.cell hSw (p := ⟨b, o, none⟩) h); have hlk := (h1.2.below hSw ltb).hit1 int_key smap_und hk hm2; go_simp; try with_reducible rfl; done)); try simp only [Act.put, List.setIfInBounds_toArray, List.set_cons_zero, List.set_cons_succ])
  refine wpAnyH_done (by kernel_rfl) ?_ _
  try refine NoPanic.normal ?_
  clear hr hr3 hg3 hw2 p0 c1 ltp ltg ltb
  have h3 := h1.nx hw3
  have hB3 := hB.trans (hw3.mono hB.size)
  have hz3 := hB.size
  have ltp3 : w.heap.size < w1.heap.size := hp.lt
  have hp3 := hp.below hw3 ltp3
  have p0 : w3.cell? ⟨w.heap.size, 0, none⟩ = some (.int .i64 s.id) := hp3.cellv 0 rfl
  have p1 : w3.cell? ⟨w.heap.size, 1, none⟩ = some (.int .u32 s.ad) := hp3.cellv 1 rfl
  have p2 : w3.cell? ⟨w.heap.size, 2, none⟩ = some (.int .i64 s.cost) := hp3.cellv 2 rfl
  have ltp := hp3.lt
  have hgo := grown_of_below hB3 (Nat.le_refl _) (some b)
  have hlen := fun ty => h3.2.len smap_und ty
  rw [List.length_map] at hlen
  have c0 : w3.cell? ⟨g, 0, none⟩ = some (.map (some b)) := h3.1.cellv 0 rfl
  have ltg := h3.ltg
  have ltb := h3.ltb
  cases e1 : rngB 0 255 s.id
  · skip
    have ev : sAddV M s = 2 := by unfold sAddV; rw [if_pos]; unfold siteOk; rw [e1]; rfl
    have em : sAddM M s = M := by unfold sAddM; rw [ev]; rfl
    replace ev := Lib.hid ev
    replace em := Lib.hid em
    go_wp2_with (go_at_call 121; refine (sIn_any _ _ _).mono ?_; rintro e w' ⟨rfl, rfl⟩; rw [e1])
    go_ret
    rw [ev.out, em.out]
    exact ⟨rfl, h3, hgo⟩
  by_cases e2 : s.ad = 0
  · have d2 : (s.ad == 0) = true := by simpa using e2
    have ev : sAddV M s = 2 := by unfold sAddV; rw [if_pos]; unfold siteOk; simp [e2]
    have em : sAddM M s = M := by unfold sAddM; rw [ev]; rfl
    replace ev := Lib.hid ev
    replace em := Lib.hid em
    go_wp2_with (go_at_call 121; refine (sIn_any _ _ _).mono ?_; rintro e w' ⟨rfl, rfl⟩; rw [e1])
    go_ret
    rw [ev.out, em.out]
    exact ⟨rfl, h3, hgo⟩
  have d2 : (s.ad == 0) = false := by simpa using e2
  cases e3 : rngB 0 1000000 s.cost
  · skip
    have ev : sAddV M s = 2 := by unfold sAddV; rw [if_pos]; unfold siteOk; rw [e3]; simp
    have em : sAddM M s = M := by unfold sAddM; rw [ev]; rfl
    replace ev := Lib.hid ev
    replace em := Lib.hid em
    go_wp2_with (go_at_call 121; refine (sIn_any _ _ _).mono ?_; rintro e w' ⟨rfl, rfl⟩; simp only [e1, e3])
    go_ret
    rw [ev.out, em.out]
    exact ⟨rfl, h3, hgo⟩
  have hok : siteOk s = true := by unfold siteOk; rw [e1, e3]; simpa using e2
  replace e2 := Lib.hid e2
  have ev : sAddV M s = 13 := by unfold sAddV; rw [if_neg (by rw [hok]; simp), if_pos hcon]
  have em : sAddM M s = M := by unfold sAddM; rw [ev]; rfl
  replace ev := Lib.hid ev
  replace em := Lib.hid em
  go_wp2_with (go_at_call 121; refine (sIn_any _ _ _).mono ?_; rintro e w' ⟨rfl, rfl⟩; simp only [e1, e3])
  go_ret
  rw [ev.out, em.out]
  exact ⟨rfl, h3, hgo⟩
set_option maxRecDepth 100000 in
set_option maxHeartbeats 4000000 in
theorem sAdd_new (w : World) (g b r : Nat) (M : List SiteV) (s : SiteV) (h : SibIn w g b r M) (hI : IsI s.id) (hnot : ∀ m ∈ M, m.id ≠ s.id) :
    Calls Tryz.prog 93 #[.pointer (some ⟨g, 0, none⟩), .agg #[.int .i64 s.id, .int .u32 s.ad, .int .i64 s.cost]] w fun e w' => e = .returned (.int .i64 (sAddV M s)) ∧ SibIn w' g b r (sAddM M s) ∧ w.grownBy w' (some b) := by
  have hi5 : (Tryz.prog.info? 72).map (·.size) = some 3 := by kernel_rfl
  have hB := (Below.refl w.heap.size w).alloc (Nat.le_refl _) (.cells #[.int .i64 s.id, .int .u32 s.ad, .int .i64 s.cost] 72)
  have hp := Blk.new w 72 #[.int .i64 s.id, .int .u32 s.ad, .int .i64 s.cost]
  have h1 := h.nx hB
  have hgb : g ≠ b := by
    intro e
    obtain ⟨es, clock, he, _⟩ := h.2
    rw [← e] at he
    have h9 := h.1.symm.trans he
    injection h9 with h9
    cases h9
  have hk := int_lit s.id hI.1 hI.2
  have hcon : (M.map SiteV.id).contains s.id = false := by
    rw [← Bool.not_eq_true, List.contains_iff_mem]
    intro hm
    obtain ⟨m, h1, h2⟩ := List.mem_map.1 hm
    exact hnot m h1 h2
  go_enter Tryz.func93, Tryz.ntmps93
  go_upto_region 1 with (fail)
  generalize w.alloc (.cells #[.int .i64 s.id, .int .u32 s.ad, .int .i64 s.cost] 72) = w1 at *
  have p0 : w1.cell? ⟨w.heap.size, 0, none⟩ = some (.int .i64 s.id) := hp.cellv 0 rfl
  have c1 : w1.cell? ⟨g, 0, none⟩ = some (.map (some b)) := h1.1.cellv 0 rfl
  have ltp := hp.lt
  have ltg := h1.ltg
  have ltb := h1.ltb
  go_upto_region 3 with (go_at_call 120; refine (sMade_in h1).mono ?_; rintro e w' ⟨rfl, rfl⟩)
  have hm2 := no_sid hnot
  -- region 3: 0 1 2 3 4 5 6 7 8 9 10M 11M 12
  try refine wp_region_noPanic ?_
  have hs4r : (fun w' => Below w1.heap.size w1 w') w1.drew := (Below.refl _ _).drew
  refine wp_region_held_drew (S := fun w' => Below w1.heap.size w1 w') (by kernel_rfl) hs4r (fun _ => ?_)
  (refine held_takeA 0 (by rfl) ?_ (by kernel_rfl) (fun _ _ _ h => h) hs4r ?_ ?_; rotate_left; (focus (intro wq hSw; have hrd := hSw; have hrd2 : ∀ b o, b < w1.heap.size → wq.cell? ⟨b, o, none⟩ = w1.cell? ⟨b, o, none⟩ := (fun b o h => Below.cell hSw (p := ⟨b, o, none⟩) h); have hlk := (h1.2.below hSw ltb).miss1 int_key smap_und site_zero hk hm2; go_simp; try with_reducible rfl; done)); try simp only [Act.put, List.setIfInBounds_toArray, List.set_cons_zero, List.set_cons_succ])
  (refine held_takeA 1 (by rfl) ?_ (by kernel_rfl) (fun _ _ _ h => h) hs4r ?_ ?_; rotate_left; (focus (intro wq hSw; have hrd := hSw; have hrd2 : ∀ b o, b < w1.heap.size → wq.cell? ⟨b, o, none⟩ = w1.cell? ⟨b, o, none⟩ := (fun b o h => Below.cell hSw (p := ⟨b, o, none⟩) h); have hlk := (h1.2.below hSw ltb).miss1 int_key smap_und site_zero hk hm2; go_simp; try with_reducible rfl; done)); try simp only [Act.put, List.setIfInBounds_toArray, List.set_cons_zero, List.set_cons_succ])
  (refine held_takeA 2 (by rfl) ?_ (by kernel_rfl) (fun _ _ _ h => h) hs4r ?_ ?_; rotate_left; (focus (intro wq hSw; have hrd := hSw; have hrd2 : ∀ b o, b < w1.heap.size → wq.cell? ⟨b, o, none⟩ = w1.cell? ⟨b, o, none⟩ := (fun b o h => Below.cell hSw (p := ⟨b, o, none⟩) h); have hlk := (h1.2.below hSw ltb).miss1 int_key smap_und site_zero hk hm2; go_simp; try with_reducible rfl; done)); try simp only [Act.put, List.setIfInBounds_toArray, List.set_cons_zero, List.set_cons_succ])
  (refine held_takeA 3 (by rfl) ?_ (by kernel_rfl) (fun _ _ _ h => h) hs4r ?_ ?_; rotate_left; (focus (intro wq hSw; have hrd := hSw; have hrd2 : ∀ b o, b < w1.heap.size → wq.cell? ⟨b, o, none⟩ = w1.cell? ⟨b, o, none⟩ := (fun b o h => Below.cell hSw (p := ⟨b, o, none⟩) h); have hlk := (h1.2.below hSw ltb).miss1 int_key smap_und site_zero hk hm2; go_simp; try with_reducible rfl; done)); try simp only [Act.put, List.setIfInBounds_toArray, List.set_cons_zero, List.set_cons_succ])
  (refine held_takeA 4 (by rfl) ?_ (by kernel_rfl) (fun _ _ _ h => h) hs4r ?_ ?_; rotate_left; (focus (intro wq hSw; have hrd := hSw; have hrd2 : ∀ b o, b < w1.heap.size → wq.cell? ⟨b, o, none⟩ = w1.cell? ⟨b, o, none⟩ := (fun b o h => Below.cell hSw (p := ⟨b, o, none⟩) h); have hlk := (h1.2.below hSw ltb).miss1 int_key smap_und site_zero hk hm2; go_simp; try with_reducible rfl; done)); try simp only [Act.put, List.setIfInBounds_toArray, List.set_cons_zero, List.set_cons_succ])
  (refine held_takeA 5 (by rfl) ?_ (by kernel_rfl) (fun _ _ _ h => h) hs4r ?_ ?_; rotate_left; (focus (intro wq hSw; have hrd := hSw; have hrd2 : ∀ b o, b < w1.heap.size → wq.cell? ⟨b, o, none⟩ = w1.cell? ⟨b, o, none⟩ := (fun b o h => Below.cell hSw (p := ⟨b, o, none⟩) h); have hlk := (h1.2.below hSw ltb).miss1 int_key smap_und site_zero hk hm2; go_simp; try with_reducible rfl; done)); try simp only [Act.put, List.setIfInBounds_toArray, List.set_cons_zero, List.set_cons_succ])
  (refine held_takeA 6 (by rfl) ?_ (by kernel_rfl) (fun _ _ _ h => h) hs4r ?_ ?_; rotate_left; (focus (intro wq hSw; have hrd := hSw; have hrd2 : ∀ b o, b < w1.heap.size → wq.cell? ⟨b, o, none⟩ = w1.cell? ⟨b, o, none⟩ := (fun b o h => Below.cell hSw (p := ⟨b, o, none⟩) h); have hlk := (h1.2.below hSw ltb).miss1 int_key smap_und site_zero hk hm2; go_simp; try with_reducible rfl; done)); try simp only [Act.put, List.setIfInBounds_toArray, List.set_cons_zero, List.set_cons_succ])
  (refine held_takeA 7 (by rfl) ?_ (by kernel_rfl) (fun _ _ _ h => h) hs4r ?_ ?_; rotate_left; (focus (intro wq hSw; have hrd := hSw; have hrd2 : ∀ b o, b < w1.heap.size → wq.cell? ⟨b, o, none⟩ = w1.cell? ⟨b, o, none⟩ := (fun b o h => Below.cell hSw (p := ⟨b, o, none⟩) h); have hlk := (h1.2.below hSw ltb).miss1 int_key smap_und site_zero hk hm2; go_simp; try with_reducible rfl; done)); try simp only [Act.put, List.setIfInBounds_toArray, List.set_cons_zero, List.set_cons_succ])
  (refine held_takeA 8 (by rfl) ?_ (by kernel_rfl) (fun _ _ _ h => h) hs4r ?_ ?_; rotate_left; (focus (intro wq hSw; have hrd := hSw; have hrd2 : ∀ b o, b < w1.heap.size → wq.cell? ⟨b, o, none⟩ = w1.cell? ⟨b, o, none⟩ := (fun b o h => Below.cell hSw (p := ⟨b, o, none⟩) h); have hlk := (h1.2.below hSw ltb).miss1 int_key smap_und site_zero hk hm2; go_simp; try with_reducible rfl; done)); try simp only [Act.put, List.setIfInBounds_toArray, List.set_cons_zero, List.set_cons_succ])
  (refine held_takeA 9 (by rfl) ?_ (by kernel_rfl) (fun _ _ _ h => h) hs4r ?_ ?_; rotate_left; (focus (intro wq hSw; have hrd := hSw; have hrd2 : ∀ b o, b < w1.heap.size → wq.cell? ⟨b, o, none⟩ = w1.cell? ⟨b, o, none⟩ := (fun b o h => Below.cell hSw (p := ⟨b, o, none⟩) h); have hlk := (h1.2.below hSw ltb).miss1 int_key smap_und site_zero hk hm2; go_simp; try with_reducible rfl; done)); try simp only [Act.put, List.setIfInBounds_toArray, List.set_cons_zero, List.set_cons_succ])
  refine held_callA 10 (by rfl) (by kernel_rfl) (by rfl) (fun KQ hKQ => ?_)
  go_simp
  have hw2 := (Below.refl w1.heap.size w1).drew.alloc (Nat.le_refl _) (.cells #[.int .i64 0, .int .u32 0, .int .i64 0] 72)
  have hr := Blk.new w1.drew 72 #[.int .i64 0, .int .u32 0, .int .i64 0]
  have hd : (w1.alloc (.cells #[.int .i64 0, .int .u32 0, .int .i64 0] 72)).drew = w1.drew.alloc (.cells #[.int .i64 0, .int .u32 0, .int .i64 0] 72) := rfl
  rw [hd]
  generalize w1.drew.alloc (.cells #[.int .i64 0, .int .u32 0, .int .i64 0] 72) = w2 at *
  clear hd
  have hs5r := hw2
  refine hKQ.out _ _ hs5r ?_
  clear hKQ KQ
  try simp only [Act.put, List.setIfInBounds_toArray, List.set_cons_zero, List.set_cons_succ]
  refine held_callA 11 (by rfl) (by kernel_rfl) (by rfl) (fun KQ hKQ => ?_)
  refine wp_store_blk hr 72 (.tmp 5) (.tmp 18) (by rfl) (by rfl) (by rfl) (by rfl) (by exact hi5) (by simp [Value.oneCell']) ?_
  intro w3 hr3 hg3
  have hw3 := below_own hw2 hg3 hw2.size (Nat.le_refl _)
  have hs6r := hw3
  refine hKQ.out _ _ hs6r ?_
  clear hKQ KQ
  try simp only [Act.put]
  (refine held_takeA 12 (by rfl) ?_ (by kernel_rfl) (fun _ _ _ h => h) hs6r ?_ ?_; rotate_left; (focus (intro wq hSw; have hrd := hSw; have hrd2 : ∀ b o, b < w1.heap.size → wq.cell? ⟨b, o, none⟩ = w1.cell? ⟨b, o, none⟩ := (fun b o h => Below.cell hSw (p := ⟨b, o, none⟩) h); have hlk := (h1.2.below hSw ltb).miss1 int_key smap_und site_zero hk hm2; go_simp; try with_reducible rfl; done)); try simp only [Act.put, List.setIfInBounds_toArray, List.set_cons_zero, List.set_cons_succ])
  refine wpAnyH_done (by kernel_rfl) ?_ _
  try refine NoPanic.normal ?_
  clear hr hr3 hg3 hw2 p0 c1 ltp ltg ltb
  have h3 := h1.nx hw3
  have hB3 := hB.trans (hw3.mono hB.size)
  have hz3 := hB.size
  have ltp3 : w.heap.size < w1.heap.size := hp.lt
  have hp3 := hp.below hw3 ltp3
  have p0 : w3.cell? ⟨w.heap.size, 0, none⟩ = some (.int .i64 s.id) := hp3.cellv 0 rfl
  have p1 : w3.cell? ⟨w.heap.size, 1, none⟩ = some (.int .u32 s.ad) := hp3.cellv 1 rfl
  have p2 : w3.cell? ⟨w.heap.size, 2, none⟩ = some (.int .i64 s.cost) := hp3.cellv 2 rfl
  have ltp := hp3.lt
  have hgo := grown_of_below hB3 (Nat.le_refl _) (some b)
  have hlen := fun ty => h3.2.len smap_und ty
  rw [List.length_map] at hlen
  have c0 : w3.cell? ⟨g, 0, none⟩ = some (.map (some b)) := h3.1.cellv 0 rfl
  have ltg := h3.ltg
  have ltb := h3.ltb
  cases e1 : rngB 0 255 s.id
  · skip
    have ev : sAddV M s = 2 := by unfold sAddV; rw [if_pos]; unfold siteOk; rw [e1]; rfl
    have em : sAddM M s = M := by unfold sAddM; rw [ev]; rfl
    replace ev := Lib.hid ev
    replace em := Lib.hid em
    go_wp2_with (go_at_call 121; refine (sIn_any _ _ _).mono ?_; rintro e w' ⟨rfl, rfl⟩; rw [e1])
    go_ret
    rw [ev.out, em.out]
    exact ⟨rfl, h3, hgo⟩
  by_cases e2 : s.ad = 0
  · have d2 : (s.ad == 0) = true := by simpa using e2
    have ev : sAddV M s = 2 := by unfold sAddV; rw [if_pos]; unfold siteOk; simp [e2]
    have em : sAddM M s = M := by unfold sAddM; rw [ev]; rfl
    replace ev := Lib.hid ev
    replace em := Lib.hid em
    go_wp2_with (go_at_call 121; refine (sIn_any _ _ _).mono ?_; rintro e w' ⟨rfl, rfl⟩; rw [e1])
    go_ret
    rw [ev.out, em.out]
    exact ⟨rfl, h3, hgo⟩
  have d2 : (s.ad == 0) = false := by simpa using e2
  cases e3 : rngB 0 1000000 s.cost
  · skip
    have ev : sAddV M s = 2 := by unfold sAddV; rw [if_pos]; unfold siteOk; rw [e3]; simp
    have em : sAddM M s = M := by unfold sAddM; rw [ev]; rfl
    replace ev := Lib.hid ev
    replace em := Lib.hid em
    go_wp2_with (go_at_call 121; refine (sIn_any _ _ _).mono ?_; rintro e w' ⟨rfl, rfl⟩; simp only [e1, e3])
    go_ret
    rw [ev.out, em.out]
    exact ⟨rfl, h3, hgo⟩
  have hok : siteOk s = true := by unfold siteOk; rw [e1, e3]; simpa using e2
  replace e2 := Lib.hid e2
  by_cases h8 : 8 ≤ M.length
  · have d4 : decide ((8 : Int) ≤ M.length) = true := by simp; omega
    have ev : sAddV M s = 6 := by unfold sAddV; rw [if_neg (by rw [hok]; simp), if_neg (by rw [hcon]; simp), if_pos h8]
    have em : sAddM M s = M := by unfold sAddM; rw [ev]; rfl
    replace ev := Lib.hid ev
    replace em := Lib.hid em
    go_wp2_with (go_at_call 121; refine (sIn_any _ _ _).mono ?_; rintro e w' ⟨rfl, rfl⟩; simp only [e1, e3])
    go_ret
    rw [ev.out, em.out]
    exact ⟨rfl, h3, hgo⟩
  have d4 : decide ((8 : Int) ≤ M.length) = false := by simp; omega
  have ev : sAddV M s = 0 := by unfold sAddV; rw [if_neg (by rw [hok]; simp), if_neg (by rw [hcon]; simp), if_neg h8]
  have em : sAddM M s = M ++ [s] := by unfold sAddM; rw [ev]; rfl
  replace ev := Lib.hid ev
  replace em := Lib.hid em
  go_upto_region 10 with (go_at_call 121; refine (sIn_any _ _ _).mono ?_; rintro e w' ⟨rfl, rfl⟩; simp only [e1, e3])
  clear c0 ltp ltg ltb p1 p2
  have c0 : w3.cell? ⟨g, 0, none⟩ = some (.map (some b)) := h3.1.cellv 0 rfl
  have ltg := h3.ltg
  have ltp := hp3.lt
  have ltb0 := h.ltb
  have hpb : w.heap.size ≠ b := by omega
  -- region 10: 0 1 2 3 4 5 6 7M
  try refine wp_region_noPanic ?_
  have hs7r : w3.grownBy w3.drew (some b) := grown_drew (grown_refl _ _)
  refine wp_region_held_drew (S := fun w' => w3.grownBy w' (some b)) (by kernel_rfl) hs7r (fun _ => ?_)
  (refine held_takeA 0 (by rfl) ?_ (by kernel_rfl) (fun _ _ _ h => h) hs7r ?_ ?_; rotate_left; (focus (intro wq hSw; have hrd : ∀ b' o, b' < w3.heap.size → b' ≠ b → wq.cell? ⟨b', o, none⟩ = w3.cell? ⟨b', o, none⟩ := (fun b' o h hne => grown_cell hSw h hne); go_simp; try with_reducible rfl; done)); try simp only [Act.put, List.setIfInBounds_toArray, List.set_cons_zero, List.set_cons_succ])
  (refine held_takeA 1 (by rfl) ?_ (by kernel_rfl) (fun _ _ _ h => h) hs7r ?_ ?_; rotate_left; (focus (intro wq hSw; have hrd : ∀ b' o, b' < w3.heap.size → b' ≠ b → wq.cell? ⟨b', o, none⟩ = w3.cell? ⟨b', o, none⟩ := (fun b' o h hne => grown_cell hSw h hne); go_simp; try with_reducible rfl; done)); try simp only [Act.put, List.setIfInBounds_toArray, List.set_cons_zero, List.set_cons_succ])
  (refine held_takeA 2 (by rfl) ?_ (by kernel_rfl) (fun _ _ _ h => h) hs7r ?_ ?_; rotate_left; (focus (intro wq hSw; have hrd : ∀ b' o, b' < w3.heap.size → b' ≠ b → wq.cell? ⟨b', o, none⟩ = w3.cell? ⟨b', o, none⟩ := (fun b' o h hne => grown_cell hSw h hne); go_simp; try with_reducible rfl; done)); try simp only [Act.put, List.setIfInBounds_toArray, List.set_cons_zero, List.set_cons_succ])
  (refine held_takeA 3 (by rfl) ?_ (by kernel_rfl) (fun _ _ _ h => h) hs7r ?_ ?_; rotate_left; (focus (intro wq hSw; have hrd : ∀ b' o, b' < w3.heap.size → b' ≠ b → wq.cell? ⟨b', o, none⟩ = w3.cell? ⟨b', o, none⟩ := (fun b' o h hne => grown_cell hSw h hne); go_simp; try with_reducible rfl; done)); try simp only [Act.put, List.setIfInBounds_toArray, List.set_cons_zero, List.set_cons_succ])
  (refine held_takeA 4 (by rfl) ?_ (by kernel_rfl) (fun _ _ _ h => h) hs7r ?_ ?_; rotate_left; (focus (intro wq hSw; have hrd : ∀ b' o, b' < w3.heap.size → b' ≠ b → wq.cell? ⟨b', o, none⟩ = w3.cell? ⟨b', o, none⟩ := (fun b' o h hne => grown_cell hSw h hne); go_simp; try with_reducible rfl; done)); try simp only [Act.put, List.setIfInBounds_toArray, List.set_cons_zero, List.set_cons_succ])
  (refine held_takeA 5 (by rfl) ?_ (by kernel_rfl) (fun _ _ _ h => h) hs7r ?_ ?_; rotate_left; (focus (intro wq hSw; have hrd : ∀ b' o, b' < w3.heap.size → b' ≠ b → wq.cell? ⟨b', o, none⟩ = w3.cell? ⟨b', o, none⟩ := (fun b' o h hne => grown_cell hSw h hne); go_simp; try with_reducible rfl; done)); try simp only [Act.put, List.setIfInBounds_toArray, List.set_cons_zero, List.set_cons_succ])
  (refine held_takeA 6 (by rfl) ?_ (by kernel_rfl) (fun _ _ _ h => h) hs7r ?_ ?_; rotate_left; (focus (intro wq hSw; refine exec_load_blk (x := .tmp 3) ?_ ?_ (hp3.grown hSw (by simp; omega)) _ Tryz.underlying72 rfl (by kernel_rfl) <;> rfl)); simp only [Act.put, List.setIfInBounds_toArray, List.set_cons_zero, List.set_cons_succ])
  refine held_callA 7 (by rfl) (by kernel_rfl) (by rfl) (fun KQ hKQ => ?_)
  refine wp_put_new (key := .int .i64 s.id) (val := .agg #[.int .i64 s.id, .int .u32 s.ad, .int .i64 s.cost]) h3.2.drew int_key smap_und (.tmp 48) (.tmp 50) (.tmp 51) (by rfl) (by rfl) (by rfl) (by rfl) hk hm2 ?_
  intro w4 he4 hg4
  refine hKQ.out _ _ (grown_trans hs7r hg4) (held_mono (S' := fun w' => w4.grownBy w' (some b)) (fun w' h => grown_trans (grown_trans hs7r hg4) h) _ _ _ _ ?_)
  clear hKQ KQ
  replace hp3 := hp3.grown (grown_trans hs7r hg4) (by simp; omega)
  have hs8r : w4.grownBy w4 (some b) := grown_refl _ _
  try simp only [Act.put]
  refine wpAnyH_done (by kernel_rfl) ?_ _
  try refine NoPanic.normal ?_
  go_wp2_with fail
  go_ret
  have hg5 : w3.grownBy w4 (some b) := grown_trans (grown_drew (grown_refl w3 (some b))) hg4
  rw [ev.out, em.out]
  refine ⟨rfl, ⟨h3.1.grown hg5 (by simp; omega), ?_⟩, grown_trans hgo hg5⟩
  rw [List.map_append]
  exact he4
theorem sAdd_any (w : World) (g b r : Nat) (M : List SiteV) (s : SiteV) (h : SibIn w g b r M) (hI : IsI s.id) :
    Calls Tryz.prog 93 #[.pointer (some ⟨g, 0, none⟩), .agg #[.int .i64 s.id, .int .u32 s.ad, .int .i64 s.cost]] w fun e w' => e = .returned (.int .i64 (sAddV M s)) ∧ SibIn w' g b r (sAddM M s) ∧ w.grownBy w' (some b) := by
  by_cases hx : ∃ m ∈ M, m.id = s.id
  · obtain ⟨m, hm, hid⟩ := hx
    exact sAdd_there w g b r M s h hI m hm hid
  · exact sAdd_new w g b r M s h hI fun m hm e => hx ⟨m, hm, e⟩
end Go.Proofs.YtecmhakapomepaaGreat

/- config: part 5; the tables, the rule, the time to live; Check. -/
namespace Go.Proofs.YtecmhakapomepaaGreat
set_option linter.unusedVariables false
open Go Go.RowKit Go.Maps

theorem sAddV_iff {M : List SiteV} {s : SiteV} : sAddV M s = 0 ↔ (siteOk s && !((M.map SiteV.id).contains s.id) && decide (M.length < 8)) = true := by
  unfold sAddV
  cases h1 : siteOk s
  · simp
  · cases h2 : (M.map SiteV.id).contains s.id
    · by_cases h3 : 8 ≤ M.length
      · simp [h3]; try omega
      · simp [h3]; try omega
    · simp
theorem siteB_eq (own : Int) (M : List SiteV) (s : SiteV) : siteB own M s = ((s.ad != own) && (sAddV M s == 0)) := by
  unfold siteB
  congr 1
  rw [Bool.eq_iff_iff, beq_iff_eq, sAddV_iff]
set_option maxRecDepth 100000 in
set_option maxHeartbeats 4000000 in
theorem sib1_any (w : World) (c : CfgV) (cb tp g b r : Nat) (M : List SiteV) (s : SiteV) (hI : IsI s.id) (hc : Blk w cb 29 (cfgC c)) (ht : Blk w tp 141 #[.pointer (some ⟨g, 0, none⟩)]) (h : SibIn w g b r M) (n1 : cb ≠ b) (n2 : tp ≠ b) :
    Calls Tryz.prog 92 #[.agg #[.int .i64 s.id, .int .u32 s.ad, .int .i64 s.cost], .pointer (some ⟨cb, 0, none⟩), .pointer (some ⟨tp, 0, none⟩)] w fun e w' => e = .returned (.bool (!siteB c.own M s)) ∧ (siteB c.own M s = true → SibIn w' g b r (M ++ [s])) ∧ Blk w' cb 29 (cfgC c) ∧ Blk w' tp 141 #[.pointer (some ⟨g, 0, none⟩)] ∧ w.grownBy w' (some b) := by
  have hB := (Below.refl w.heap.size w).alloc (Nat.le_refl _) (.cells #[.int .i64 s.id, .int .u32 s.ad, .int .i64 s.cost] 72)
  have hq := Blk.new w 72 #[.int .i64 s.id, .int .u32 s.ad, .int .i64 s.cost]
  replace hc := hc.below hB hc.lt
  replace ht := ht.below hB ht.lt
  replace h := h.nx hB
  rw [siteB_eq]
  go_enter Tryz.func92, Tryz.ntmps92
  go_upto_region 1 with (fail)
  generalize w.alloc (.cells #[.int .i64 s.id, .int .u32 s.ad, .int .i64 s.cost] 72) = w1 at *
  have q0 : w1.cell? ⟨w.heap.size, 0, none⟩ = some (.int .i64 s.id) := hq.cellv 0 rfl
  have q1 : w1.cell? ⟨w.heap.size, 1, none⟩ = some (.int .u32 s.ad) := hq.cellv 1 rfl
  have q2 : w1.cell? ⟨w.heap.size, 2, none⟩ = some (.int .i64 s.cost) := hq.cellv 2 rfl
  have ql := hq.lt
  have c2 : w1.cell? ⟨cb, 2, none⟩ = some (.int .u32 c.own) := hc.cellv 2 rfl
  have cl := hc.lt
  have t0 : w1.cell? ⟨tp, 0, none⟩ = some (.pointer (some ⟨g, 0, none⟩)) := ht.cellv 0 rfl
  have tl := ht.lt
  have hA := sAdd_any w1 g b r M s h hI
  have hgo := grown_of_below hB (Nat.le_refl _) (some b)
  by_cases ho : s.ad = c.own
  · have d0 : (s.ad == c.own) = true := by simpa using ho
    have ev := Lib.hid (show (s.ad != c.own) = false by simp [ho])
    replace ho := Lib.hid ho
    clear hA
    go_wp2_with fail
    go_ret
    rw [ev.out]
    exact ⟨rfl, fun h => by simp at h, hc, ht, hgo⟩
  · have d0 : (s.ad == c.own) = false := by simpa using ho
    have ev := Lib.hid (show (s.ad != c.own) = true by simp [ho])
    replace ho := Lib.hid ho
    go_wp2_with fail
    refine hA.mono ?_
    rintro e w2 ⟨rfl, h2, hg⟩
    clear hA
    go_wp2_with fail
    go_ret
    rw [ev.out]
    refine ⟨ret_bool (by simp [bne]), fun hs => ?_, hc.grown hg (by intro e; injection e with e; exact n1 e), ht.grown hg (by intro e; injection e with e; exact n2 e), grown_trans hgo hg⟩
    have e0 : sAddV M s = 0 := by simpa using hs
    unfold sAddM at h2
    rw [if_pos e0] at h2
    exact h2
set_option maxRecDepth 100000 in
set_option maxHeartbeats 4000000 in
theorem sNew_any (w : World) : Calls Tryz.prog 90 #[] w fun e w' => ∃ g b r, e = .returned (.pointer (some ⟨g, 0, none⟩)) ∧ SibIn w' g b r [] ∧ w.heap.size ≤ g ∧ w.heap.size ≤ b ∧ Below w.heap.size w w' := by
  go_enter Tryz.func90, Tryz.ntmps90
  go_wp2_with fail
  go_ret
  refine ⟨w.heap.size + 1 + 1, w.heap.size, w.heap.size + 1, rfl, ⟨?_, ?_⟩, by omega, Nat.le_refl _, (((Below.refl _ _).alloc (Nat.le_refl _) _).alloc (by simp) _).alloc (by simp; omega) _⟩
  · have := Blk.new ((w.alloc (.map #[] 0)).alloc (.map #[] 0)) 192 #[.map (some w.heap.size), .map (some (w.heap.size + 1))]
    simpa using this
  · exact ((Ent.made (P := Tryz.prog) (K := 3) w).alloc _).alloc _
set_option maxRecDepth 100000 in
set_option maxHeartbeats 4000000 in
theorem sitesC_any (w : World) (c : CfgV) (h : CfgIn w c) (hs : CfgSm c) : Calls Tryz.prog 60 #[.agg (cfgC c)] w fun e w' => e = .returned (.bool (sitesB c)) ∧ Below w.heap.size w w' := by
  have hB := (Below.refl w.heap.size w).alloc (Nat.le_refl _) (.cells (cfgC c) 29)
  have hq := Blk.new w 29 (cfgC c)
  have hSl := Lib.hid h.sites.1
  go_enter Tryz.func60, Tryz.ntmps60
  go_upto_region 1 with (fail)
  generalize w.alloc (.cells (cfgC c) 29) = w1 at *
  go_wp2_with fail
  refine (sNew_any w1).mono ?_
  rintro e w2 ⟨g, b, r, rfl, hT, hg, hb0, hb⟩
  have hz1 := hB.size
  have hl1 := hq.lt
  replace hq := hq.below hb hq.lt
  replace hB := hB.trans (hb.mono hB.size)
  have hbx := (Below.refl w2.heap.size w2).alloc (Nat.le_refl _) (.cells #[.pointer (some ⟨g, 0, none⟩)] 141)
  have h5 := Blk.new w2 141 #[.pointer (some ⟨g, 0, none⟩)]
  have hz2 := hb.size
  have hltb := hT.ltb
  replace hq := hq.below hbx hq.lt
  replace hT := hT.nx hbx
  replace hB := hB.trans (hbx.mono hB.size)
  have n2 : w2.heap.size ≠ b := by omega
  have n1 : w.heap.size ≠ b := by omega
  have hb9 : w.heap.size ≤ b := by omega
  clear hbx hb
  go_upto_region 2 with (fail)
  generalize w2.alloc (.cells #[.pointer (some ⟨g, 0, none⟩)] 141) = w3 at *
  generalize w2.heap.size = tp at *
  have q5 : w3.cell? ⟨w.heap.size, 5, none⟩ = some (.slice c.sA c.sn c.sc) := hq.cellv 5 rfl
  have ql := hq.lt
  have hcon := contains_site w3 c.sA c.sn c.sc c.S (.pointer (some ⟨w.heap.size, 0, none⟩)) (.pointer (some ⟨tp, 0, none⟩))
    (fun k wr => (∀ j a, j < k → c.S[j]? = some a → siteB c.own (c.S.take j) a = true) ∧ SibIn wr g b r (c.S.take k) ∧ Blk wr w.heap.size 29 (cfgC c) ∧ Blk wr tp 141 #[.pointer (some ⟨g, 0, none⟩)] ∧ Below w.heap.size w wr)
    (fun wr => sitesB c = false ∧ Below w.heap.size w wr) (by have := hs.s; omega) h.sites.1
    (fun k wr hI => seen_nx h.sites hI.2.2.2.2)
    ⟨fun j a hj => absurd hj (by omega), hT, hq, h5, hB⟩
    (fun k a wr hI ha => by
      obtain ⟨hall, hTw, hqw, h5w, hb⟩ := hI
      have hS := seen_nx h.sites hb
      refine (sib1_any wr c w.heap.size tp g b r (c.S.take k) a (hS.2.1 a (List.mem_of_getElem? ha)).1 hqw h5w hTw n1 n2).mono ?_
      rintro e w' ⟨rfl, k1, k2, k3, hg⟩
      have hb' := hb.trans (Below.of_grown (B := w.heap.size) hg hb.size hb9)
      refine ⟨_, rfl, fun hr => ⟨?_, hb'⟩, fun hr => ⟨fun j x hj hx => ?_, ?_, k2, k3, hb'⟩⟩
      · unfold sitesB
        refine range_no (k := k) (List.getElem?_eq_some_iff.1 ha).1 ?_
        simp only [ha]
        simpa using hr
      · by_cases hjk : j < k
        · exact hall j x hjk hx
        · obtain rfl : j = k := by omega
          rw [ha] at hx; injection hx with hx; subst hx
          simpa using hr
      · have := k1 (by simpa using hr)
        rw [List.take_add_one, ha]
        exact this)
  go_wp2_with fail
  refine hcon.mono ?_
  rintro e w4 ⟨rr, rfl, h1, h2⟩
  cases rr
  · obtain ⟨hall, _, _, _, hb⟩ := h2 rfl
    have ev := Lib.hid (show sitesB c = true by
      unfold sitesB
      refine range_yes fun k hk => ?_
      have ha := List.getElem?_eq_getElem hk
      simp only [ha]
      exact hall k _ (by have := hSl.out; omega) ha)
    clear h1 h2 hcon hall
    go_wp2_with fail
    go_ret
    exact ⟨ret_bool ev.out.symm, hb⟩
  · obtain ⟨hM, hb⟩ := h1 rfl
    replace hM := Lib.hid hM
    clear h1 h2 hcon
    go_wp2_with fail
    go_ret
    exact ⟨ret_bool hM.out.symm, hb⟩
end Go.Proofs.YtecmhakapomepaaGreat
