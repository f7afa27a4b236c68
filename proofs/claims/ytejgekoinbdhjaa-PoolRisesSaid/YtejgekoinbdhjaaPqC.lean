/- pool: one act on both. -/
import Derived.Test.YtejgekoinbdhjaaPqB
namespace Go.Proofs.Ytejgekoinbdhjaa
set_option linter.unusedVariables false
open Go Go.RowKit Go.Maps

theorem refAddS (w : World) (X : Nat → Prop) (g : Nat) (pc : Int) (L : List Mem) (id ad wt : Int) (h : RefIn w X g pc L) (hn : L.length ≤ 16) (hX : ∀ b, w.heap.size ≤ b → X b) :
    Calls Try.prog 100 #[.pointer (some ⟨g, 0, none⟩), .agg #[.int .i64 id, .int .u32 ad, .int .i64 wt]] w fun e w' => e = .returned (.int .i64 (addR L id ad wt).1) ∧ RefIn w' X g pc (addR L id ad wt).2 ∧ w.grownBy w' (some g) := by
  by_cases hok : addOk id ad wt = false
  · exact refAddBad w X g pc L id ad wt h hok
  · exact refAddOk w X g pc L id ad wt h (by simpa using hok) hn hX
/-- something that is done. -/
structure ActV where
  k : Int
  id : Int
  ad : Int
  wt : Int
  on : Bool
def actC (a : ActV) : Array Value := #[.int .i64 a.k, .int .i64 a.id, .int .u32 a.ad, .int .i64 a.wt, .bool a.on]
def actM (a : ActV) (M : List Mem) : List Mem :=
  if a.k = 0 then (addP M a.id a.ad a.wt).2 else if a.k = 1 then (remR M a.id).2 else if a.k = 2 then (weighR M a.id a.wt).2 else if a.k = 3 then (markR M a.id a.on).2 else if a.k = 4 then (drainR M a.id a.on).2 else M
def actL (a : ActV) (L : List Mem) : List Mem :=
  if a.k = 0 then (addR L a.id a.ad a.wt).2 else if a.k = 1 then (remR L a.id).2 else if a.k = 2 then (weighR L a.id a.wt).2 else if a.k = 3 then (markR L a.id a.on).2 else if a.k = 4 then (drainR L a.id a.on).2 else L
def actX (a : ActV) (M L : List Mem) : Bool :=
  if a.k = 0 then (addP M a.id a.ad a.wt).1 == (addR L a.id a.ad a.wt).1 else if a.k = 1 then (remR M a.id).1 == (remR L a.id).1 else if a.k = 2 then (weighR M a.id a.wt).1 == (weighR L a.id a.wt).1
  else if a.k = 3 then (markR M a.id a.on).1 == (markR L a.id a.on).1 else if a.k = 4 then (drainR M a.id a.on).1 == (drainR L a.id a.on).1 else true
theorem rel_act {M L : List Mem} (h : Rel M L) (a : ActV) : actX a M L = true ∧ Rel (actM a M) (actL a L) := by
  unfold actX actM actL
  by_cases h0 : a.k = 0
  · simp only [if_pos h0]; exact ⟨by simpa using (rel_add h a.id a.ad a.wt).1, (rel_add h a.id a.ad a.wt).2⟩
  simp only [if_neg h0]
  by_cases h1 : a.k = 1
  · simp only [if_pos h1]; exact ⟨by simpa using (rel_rem h a.id).1, (rel_rem h a.id).2⟩
  simp only [if_neg h1]
  by_cases h2 : a.k = 2
  · simp only [if_pos h2]; exact ⟨by simpa using (rel_weigh h a.id a.wt).1, (rel_weigh h a.id a.wt).2⟩
  simp only [if_neg h2]
  by_cases h3 : a.k = 3
  · simp only [if_pos h3]; exact ⟨by simpa using (rel_mark h a.id a.on).1, (rel_mark h a.id a.on).2⟩
  simp only [if_neg h3]
  by_cases h4 : a.k = 4
  · simp only [if_pos h4]; exact ⟨by simpa using (rel_drain h a.id a.on).1, (rel_drain h a.id a.on).2⟩
  simp only [if_neg h4]
  exact ⟨trivial, h⟩
set_option maxRecDepth 100000 in
set_option maxHeartbeats 2000000 in
theorem act_0 (w : World) (g b : Nat) (pc : Int) (M : List Mem) (X : Nat → Prop) (gr : Nat) (pc' : Int) (L : List Mem) (id ad wt : Int) (on : Bool) (h : PoolIn w g b pc M) (hr : RefIn w X gr pc' L) (hL : L.length ≤ 16) (hXb : ∀ i, X i → i ≠ b) (hX : ∀ i, w.heap.size ≤ i → X i) (r0 : -9223372036854775808 ≤ id) (r1 : id ≤ 9223372036854775807) :
    Calls Try.prog 34 #[.pointer (some ⟨g, 0, none⟩), .pointer (some ⟨gr, 0, none⟩), .agg #[.int .i64 0, .int .i64 id, .int .u32 ad, .int .i64 wt, .bool on]] w fun e w' => e = .returned (.bool ((addP M id ad wt).1 == (addR L id ad wt).1)) ∧ PoolIn w' g b pc ((addP M id ad wt).2) ∧ RefIn w' X gr pc' ((addR L id ad wt).2) ∧ ∃ wm, w.grownBy wm (some b) ∧ wm.grownBy w' (some gr) := by
  have hB := (Below.refl w.heap.size w).alloc (Nat.le_refl _) (.cells #[.int .i64 0, .int .i64 id, .int .u32 ad, .int .i64 wt, .bool on] 28)
  have hq := Blk.new w 28 #[.int .i64 0, .int .i64 id, .int .u32 ad, .int .i64 wt, .bool on]
  have h1 := h.nx hB
  have hr1 := hr.nx hB
  have hrb : gr ≠ b := by obtain ⟨_, _, _, _, _, q, _⟩ := hr; exact ent_ne h.2 q
  have ltb := h.ltb
  have ltr := hr.lt
  go_enter Try.func34, Try.ntmps34
  go_upto_region 1 with (fail)
  generalize w.alloc (.cells #[.int .i64 0, .int .i64 id, .int .u32 ad, .int .i64 wt, .bool on] 28) = w1 at *
  have a0 : w1.cell? ⟨w.heap.size, 0, none⟩ = some (.int .i64 0) := hq.cellv 0 rfl
  have a1 : w1.cell? ⟨w.heap.size, 1, none⟩ = some (.int .i64 id) := hq.cellv 1 rfl
  have a2 : w1.cell? ⟨w.heap.size, 2, none⟩ = some (.int .u32 ad) := hq.cellv 2 rfl
  have a3 : w1.cell? ⟨w.heap.size, 3, none⟩ = some (.int .i64 wt) := hq.cellv 3 rfl
  have a4 : w1.cell? ⟨w.heap.size, 4, none⟩ = some (.bool on) := hq.cellv 4 rfl
  have ltq := hq.lt
  replace h1 : PoolIn w1.drew g b pc M := h1
  go_upto_region 3 with (fail)
  -- region 3: 0 1 2 3C 4 5 6 7C 8 9
  try refine wp_region_noPanic ?_
  have hs1r : (fun w' => ∀ i, w'.cell? ⟨w.heap.size, i, none⟩ = w1.cell? ⟨w.heap.size, i, none⟩) w1.drew := fun _ => rfl
  refine wp_region_held_drew (S := fun w' => ∀ i, w'.cell? ⟨w.heap.size, i, none⟩ = w1.cell? ⟨w.heap.size, i, none⟩) (by kernel_rfl) hs1r (fun _ => ?_)
  (refine held_takeA 0 (by rfl) ?_ (by kernel_rfl) (fun _ _ _ h => h) hs1r ?_ ?_; rotate_left; (focus (intro wq hSw; have hrd := hSw; go_simp; try with_reducible rfl; done)); try simp only [Act.put, List.setIfInBounds_toArray, List.set_cons_zero, List.set_cons_succ])
  (refine held_takeA 1 (by rfl) ?_ (by kernel_rfl) (fun _ _ _ h => h) hs1r ?_ ?_; rotate_left; (focus (intro wq hSw; have hrd := hSw; go_simp; try with_reducible rfl; done)); try simp only [Act.put, List.setIfInBounds_toArray, List.set_cons_zero, List.set_cons_succ])
  (refine held_takeA 2 (by rfl) ?_ (by kernel_rfl) (fun _ _ _ h => h) hs1r ?_ ?_; rotate_left; (focus (intro wq hSw; have hrd := hSw; go_simp; try with_reducible rfl; done)); try simp only [Act.put, List.setIfInBounds_toArray, List.set_cons_zero, List.set_cons_succ])
  (refine held_takeA 4 (by rfl) ?_ (by kernel_rfl) (fun _ _ _ h => h) hs1r ?_ ?_; rotate_left; (focus (intro wq hSw; have hrd := hSw; go_simp; try with_reducible rfl; done)); try simp only [Act.put, List.setIfInBounds_toArray, List.set_cons_zero, List.set_cons_succ])
  (refine held_takeA 5 (by rfl) ?_ (by kernel_rfl) (fun _ _ _ h => h) hs1r ?_ ?_; rotate_left; (focus (intro wq hSw; have hrd := hSw; go_simp; try with_reducible rfl; done)); try simp only [Act.put, List.setIfInBounds_toArray, List.set_cons_zero, List.set_cons_succ])
  (refine held_takeA 6 (by rfl) ?_ (by kernel_rfl) (fun _ _ _ h => h) hs1r ?_ ?_; rotate_left; (focus (intro wq hSw; have hrd := hSw; go_simp; try with_reducible rfl; done)); try simp only [Act.put, List.setIfInBounds_toArray, List.set_cons_zero, List.set_cons_succ])
  refine held_callA 3 (by rfl) (by kernel_rfl) (by rfl) (fun KQ hKQ => ?_)
  go_simp
  refine (pAddS w1.drew g b pc M h1 id ad wt).mono ?_
  rintro e w2 ⟨rfl, h2, hg2⟩
  replace hg2 : w1.grownBy w2 (some b) := grown_trans (grown_drew (grown_refl w1 (some b))) hg2
  have hr2 := hr1.grown hg2 hrb hXb
  have hX2 : ∀ i, w2.heap.size ≤ i → X i := fun i q => hX i (Nat.le_trans hB.size (Nat.le_trans hg2.size q))
  have e2 : ∀ i, w2.cell? ⟨w.heap.size, i, none⟩ = w1.cell? ⟨w.heap.size, i, none⟩ := fun i => grown_cell hg2 ltq (by omega)
  have hs2r := e2
  refine hKQ.out _ _ hs2r ?_
  clear hKQ KQ
  try simp only [Act.put, List.setIfInBounds_toArray, List.set_cons_zero, List.set_cons_succ]
  refine held_callA 7 (by rfl) (by kernel_rfl) (by rfl) (fun KQ hKQ => ?_)
  go_simp
  refine (refAddS w2 X gr pc' L id ad wt hr2 hL hX2).mono ?_
  rintro e w3 ⟨rfl, hr3, hg3⟩
  have h3 : PoolIn w3 g b pc _ := h2.grown hg3 (by
    intro q; injection q with q
    obtain ⟨_, _, _, _, _, q1, _⟩ := hr
    have q2 := h.1
    unfold Blk at q1 q2
    rw [q, q1] at q2
    simp at q2) (by intro q; injection q with q; exact hrb q.symm)
  have e3 : ∀ i, w3.cell? ⟨w.heap.size, i, none⟩ = w1.cell? ⟨w.heap.size, i, none⟩ := fun i => (grown_cell hg3 (Nat.lt_of_lt_of_le ltq hg2.size) (by omega)).trans (e2 i)
  have hs3r := e3
  refine hKQ.out _ _ hs3r ?_
  clear hKQ KQ
  try simp only [Act.put, List.setIfInBounds_toArray, List.set_cons_zero, List.set_cons_succ]
  (refine held_takeA 8 (by rfl) ?_ (by kernel_rfl) (fun _ _ _ h => h) hs3r ?_ ?_; rotate_left; (focus (intro wq hSw; have hrd := hSw; go_simp; try with_reducible rfl; done)); try simp only [Act.put, List.setIfInBounds_toArray, List.set_cons_zero, List.set_cons_succ])
  (refine held_takeA 9 (by rfl) ?_ (by kernel_rfl) (fun _ _ _ h => h) hs3r ?_ ?_; rotate_left; (focus (intro wq hSw; have hrd := hSw; go_simp; try with_reducible rfl; done)); try simp only [Act.put, List.setIfInBounds_toArray, List.set_cons_zero, List.set_cons_succ])
  refine wpAnyH_done (by kernel_rfl) ?_ _
  try refine NoPanic.normal ?_
  go_wp2_with fail
  go_ret
  exact ⟨rfl, h3, hr3, w2, grown_trans (grown_of_below hB (Nat.le_refl _) _) hg2, hg3⟩
set_option maxRecDepth 100000 in
set_option maxHeartbeats 2000000 in
theorem act_1 (w : World) (g b : Nat) (pc : Int) (M : List Mem) (X : Nat → Prop) (gr : Nat) (pc' : Int) (L : List Mem) (id ad wt : Int) (on : Bool) (h : PoolIn w g b pc M) (hr : RefIn w X gr pc' L) (hL : L.length ≤ 16) (hXb : ∀ i, X i → i ≠ b) (hX : ∀ i, w.heap.size ≤ i → X i) (r0 : -9223372036854775808 ≤ id) (r1 : id ≤ 9223372036854775807) :
    Calls Try.prog 34 #[.pointer (some ⟨g, 0, none⟩), .pointer (some ⟨gr, 0, none⟩), .agg #[.int .i64 1, .int .i64 id, .int .u32 ad, .int .i64 wt, .bool on]] w fun e w' => e = .returned (.bool ((remR M id).1 == (remR L id).1)) ∧ PoolIn w' g b pc ((remR M id).2) ∧ RefIn w' X gr pc' ((remR L id).2) ∧ ∃ wm, w.grownBy wm (some b) ∧ wm.grownBy w' (some gr) := by
  have hB := (Below.refl w.heap.size w).alloc (Nat.le_refl _) (.cells #[.int .i64 1, .int .i64 id, .int .u32 ad, .int .i64 wt, .bool on] 28)
  have hq := Blk.new w 28 #[.int .i64 1, .int .i64 id, .int .u32 ad, .int .i64 wt, .bool on]
  have h1 := h.nx hB
  have hr1 := hr.nx hB
  have hrb : gr ≠ b := by obtain ⟨_, _, _, _, _, q, _⟩ := hr; exact ent_ne h.2 q
  have ltb := h.ltb
  have ltr := hr.lt
  go_enter Try.func34, Try.ntmps34
  go_upto_region 1 with (fail)
  generalize w.alloc (.cells #[.int .i64 1, .int .i64 id, .int .u32 ad, .int .i64 wt, .bool on] 28) = w1 at *
  have a0 : w1.cell? ⟨w.heap.size, 0, none⟩ = some (.int .i64 1) := hq.cellv 0 rfl
  have a1 : w1.cell? ⟨w.heap.size, 1, none⟩ = some (.int .i64 id) := hq.cellv 1 rfl
  have a2 : w1.cell? ⟨w.heap.size, 2, none⟩ = some (.int .u32 ad) := hq.cellv 2 rfl
  have a3 : w1.cell? ⟨w.heap.size, 3, none⟩ = some (.int .i64 wt) := hq.cellv 3 rfl
  have a4 : w1.cell? ⟨w.heap.size, 4, none⟩ = some (.bool on) := hq.cellv 4 rfl
  have ltq := hq.lt
  replace h1 : PoolIn w1.drew g b pc M := h1
  go_upto_region 5 with (fail)
  -- region 5: 0 1 2 3 4C 5 6 7 8 9C 10 11
  try refine wp_region_noPanic ?_
  have hs4r : (fun w' => ∀ i, w'.cell? ⟨w.heap.size, i, none⟩ = w1.cell? ⟨w.heap.size, i, none⟩) w1.drew := fun _ => rfl
  refine wp_region_held_drew (S := fun w' => ∀ i, w'.cell? ⟨w.heap.size, i, none⟩ = w1.cell? ⟨w.heap.size, i, none⟩) (by kernel_rfl) hs4r (fun _ => ?_)
  (refine held_takeA 0 (by rfl) ?_ (by kernel_rfl) (fun _ _ _ h => h) hs4r ?_ ?_; rotate_left; (focus (intro wq hSw; have hrd := hSw; go_simp; try with_reducible rfl; done)); try simp only [Act.put, List.setIfInBounds_toArray, List.set_cons_zero, List.set_cons_succ])
  (refine held_takeA 1 (by rfl) ?_ (by kernel_rfl) (fun _ _ _ h => h) hs4r ?_ ?_; rotate_left; (focus (intro wq hSw; have hrd := hSw; go_simp; try with_reducible rfl; done)); try simp only [Act.put, List.setIfInBounds_toArray, List.set_cons_zero, List.set_cons_succ])
  (refine held_takeA 2 (by rfl) ?_ (by kernel_rfl) (fun _ _ _ h => h) hs4r ?_ ?_; rotate_left; (focus (intro wq hSw; have hrd := hSw; go_simp; try with_reducible rfl; done)); try simp only [Act.put, List.setIfInBounds_toArray, List.set_cons_zero, List.set_cons_succ])
  (refine held_takeA 3 (by rfl) ?_ (by kernel_rfl) (fun _ _ _ h => h) hs4r ?_ ?_; rotate_left; (focus (intro wq hSw; have hrd := hSw; go_simp; try with_reducible rfl; done)); try simp only [Act.put, List.setIfInBounds_toArray, List.set_cons_zero, List.set_cons_succ])
  (refine held_takeA 5 (by rfl) ?_ (by kernel_rfl) (fun _ _ _ h => h) hs4r ?_ ?_; rotate_left; (focus (intro wq hSw; have hrd := hSw; go_simp; try with_reducible rfl; done)); try simp only [Act.put, List.setIfInBounds_toArray, List.set_cons_zero, List.set_cons_succ])
  (refine held_takeA 6 (by rfl) ?_ (by kernel_rfl) (fun _ _ _ h => h) hs4r ?_ ?_; rotate_left; (focus (intro wq hSw; have hrd := hSw; go_simp; try with_reducible rfl; done)); try simp only [Act.put, List.setIfInBounds_toArray, List.set_cons_zero, List.set_cons_succ])
  (refine held_takeA 7 (by rfl) ?_ (by kernel_rfl) (fun _ _ _ h => h) hs4r ?_ ?_; rotate_left; (focus (intro wq hSw; have hrd := hSw; go_simp; try with_reducible rfl; done)); try simp only [Act.put, List.setIfInBounds_toArray, List.set_cons_zero, List.set_cons_succ])
  (refine held_takeA 8 (by rfl) ?_ (by kernel_rfl) (fun _ _ _ h => h) hs4r ?_ ?_; rotate_left; (focus (intro wq hSw; have hrd := hSw; go_simp; try with_reducible rfl; done)); try simp only [Act.put, List.setIfInBounds_toArray, List.set_cons_zero, List.set_cons_succ])
  refine held_callA 4 (by rfl) (by kernel_rfl) (by rfl) (fun KQ hKQ => ?_)
  go_simp
  refine (pRemS w1.drew g b pc M h1 id r0 r1).mono ?_
  rintro e w2 ⟨rfl, h2, hg2⟩
  replace hg2 : w1.grownBy w2 (some b) := grown_trans (grown_drew (grown_refl w1 (some b))) hg2
  have hr2 := hr1.grown hg2 hrb hXb
  have hX2 : ∀ i, w2.heap.size ≤ i → X i := fun i q => hX i (Nat.le_trans hB.size (Nat.le_trans hg2.size q))
  have e2 : ∀ i, w2.cell? ⟨w.heap.size, i, none⟩ = w1.cell? ⟨w.heap.size, i, none⟩ := fun i => grown_cell hg2 ltq (by omega)
  have hs5r := e2
  refine hKQ.out _ _ hs5r ?_
  clear hKQ KQ
  try simp only [Act.put, List.setIfInBounds_toArray, List.set_cons_zero, List.set_cons_succ]
  refine held_callA 9 (by rfl) (by kernel_rfl) (by rfl) (fun KQ hKQ => ?_)
  go_simp
  refine (refRemove25 w2 X gr pc' L id hr2 (by omega) hX2).mono ?_
  rintro e w3 ⟨rfl, hr3, hg3⟩
  have h3 : PoolIn w3 g b pc _ := h2.grown hg3 (by
    intro q; injection q with q
    obtain ⟨_, _, _, _, _, q1, _⟩ := hr
    have q2 := h.1
    unfold Blk at q1 q2
    rw [q, q1] at q2
    simp at q2) (by intro q; injection q with q; exact hrb q.symm)
  have e3 : ∀ i, w3.cell? ⟨w.heap.size, i, none⟩ = w1.cell? ⟨w.heap.size, i, none⟩ := fun i => (grown_cell hg3 (Nat.lt_of_lt_of_le ltq hg2.size) (by omega)).trans (e2 i)
  have hs6r := e3
  refine hKQ.out _ _ hs6r ?_
  clear hKQ KQ
  try simp only [Act.put, List.setIfInBounds_toArray, List.set_cons_zero, List.set_cons_succ]
  (refine held_takeA 10 (by rfl) ?_ (by kernel_rfl) (fun _ _ _ h => h) hs6r ?_ ?_; rotate_left; (focus (intro wq hSw; have hrd := hSw; go_simp; try with_reducible rfl; done)); try simp only [Act.put, List.setIfInBounds_toArray, List.set_cons_zero, List.set_cons_succ])
  (refine held_takeA 11 (by rfl) ?_ (by kernel_rfl) (fun _ _ _ h => h) hs6r ?_ ?_; rotate_left; (focus (intro wq hSw; have hrd := hSw; go_simp; try with_reducible rfl; done)); try simp only [Act.put, List.setIfInBounds_toArray, List.set_cons_zero, List.set_cons_succ])
  refine wpAnyH_done (by kernel_rfl) ?_ _
  try refine NoPanic.normal ?_
  go_wp2_with fail
  go_ret
  exact ⟨rfl, h3, hr3, w2, grown_trans (grown_of_below hB (Nat.le_refl _) _) hg2, hg3⟩
set_option maxRecDepth 100000 in
set_option maxHeartbeats 2000000 in
theorem act_2 (w : World) (g b : Nat) (pc : Int) (M : List Mem) (X : Nat → Prop) (gr : Nat) (pc' : Int) (L : List Mem) (id ad wt : Int) (on : Bool) (h : PoolIn w g b pc M) (hr : RefIn w X gr pc' L) (hL : L.length ≤ 16) (hXb : ∀ i, X i → i ≠ b) (hX : ∀ i, w.heap.size ≤ i → X i) (r0 : -9223372036854775808 ≤ id) (r1 : id ≤ 9223372036854775807) :
    Calls Try.prog 34 #[.pointer (some ⟨g, 0, none⟩), .pointer (some ⟨gr, 0, none⟩), .agg #[.int .i64 2, .int .i64 id, .int .u32 ad, .int .i64 wt, .bool on]] w fun e w' => e = .returned (.bool ((weighR M id wt).1 == (weighR L id wt).1)) ∧ PoolIn w' g b pc ((weighR M id wt).2) ∧ RefIn w' X gr pc' ((weighR L id wt).2) ∧ ∃ wm, w.grownBy wm (some b) ∧ wm.grownBy w' (some gr) := by
  have hB := (Below.refl w.heap.size w).alloc (Nat.le_refl _) (.cells #[.int .i64 2, .int .i64 id, .int .u32 ad, .int .i64 wt, .bool on] 28)
  have hq := Blk.new w 28 #[.int .i64 2, .int .i64 id, .int .u32 ad, .int .i64 wt, .bool on]
  have h1 := h.nx hB
  have hr1 := hr.nx hB
  have hrb : gr ≠ b := by obtain ⟨_, _, _, _, _, q, _⟩ := hr; exact ent_ne h.2 q
  have ltb := h.ltb
  have ltr := hr.lt
  go_enter Try.func34, Try.ntmps34
  go_upto_region 1 with (fail)
  generalize w.alloc (.cells #[.int .i64 2, .int .i64 id, .int .u32 ad, .int .i64 wt, .bool on] 28) = w1 at *
  have a0 : w1.cell? ⟨w.heap.size, 0, none⟩ = some (.int .i64 2) := hq.cellv 0 rfl
  have a1 : w1.cell? ⟨w.heap.size, 1, none⟩ = some (.int .i64 id) := hq.cellv 1 rfl
  have a2 : w1.cell? ⟨w.heap.size, 2, none⟩ = some (.int .u32 ad) := hq.cellv 2 rfl
  have a3 : w1.cell? ⟨w.heap.size, 3, none⟩ = some (.int .i64 wt) := hq.cellv 3 rfl
  have a4 : w1.cell? ⟨w.heap.size, 4, none⟩ = some (.bool on) := hq.cellv 4 rfl
  have ltq := hq.lt
  replace h1 : PoolIn w1.drew g b pc M := h1
  go_upto_region 7 with (fail)
  -- region 7: 0 1 2 3 4 5 6 7C 8 9 10 11 12 13 14 15C 16 17
  try refine wp_region_noPanic ?_
  have hs7r : (fun w' => ∀ i, w'.cell? ⟨w.heap.size, i, none⟩ = w1.cell? ⟨w.heap.size, i, none⟩) w1.drew := fun _ => rfl
  refine wp_region_held_drew (S := fun w' => ∀ i, w'.cell? ⟨w.heap.size, i, none⟩ = w1.cell? ⟨w.heap.size, i, none⟩) (by kernel_rfl) hs7r (fun _ => ?_)
  (refine held_takeA 0 (by rfl) ?_ (by kernel_rfl) (fun _ _ _ h => h) hs7r ?_ ?_; rotate_left; (focus (intro wq hSw; have hrd := hSw; go_simp; try with_reducible rfl; done)); try simp only [Act.put, List.setIfInBounds_toArray, List.set_cons_zero, List.set_cons_succ])
  (refine held_takeA 1 (by rfl) ?_ (by kernel_rfl) (fun _ _ _ h => h) hs7r ?_ ?_; rotate_left; (focus (intro wq hSw; have hrd := hSw; go_simp; try with_reducible rfl; done)); try simp only [Act.put, List.setIfInBounds_toArray, List.set_cons_zero, List.set_cons_succ])
  (refine held_takeA 2 (by rfl) ?_ (by kernel_rfl) (fun _ _ _ h => h) hs7r ?_ ?_; rotate_left; (focus (intro wq hSw; have hrd := hSw; go_simp; try with_reducible rfl; done)); try simp only [Act.put, List.setIfInBounds_toArray, List.set_cons_zero, List.set_cons_succ])
  (refine held_takeA 3 (by rfl) ?_ (by kernel_rfl) (fun _ _ _ h => h) hs7r ?_ ?_; rotate_left; (focus (intro wq hSw; have hrd := hSw; go_simp; try with_reducible rfl; done)); try simp only [Act.put, List.setIfInBounds_toArray, List.set_cons_zero, List.set_cons_succ])
  (refine held_takeA 4 (by rfl) ?_ (by kernel_rfl) (fun _ _ _ h => h) hs7r ?_ ?_; rotate_left; (focus (intro wq hSw; have hrd := hSw; go_simp; try with_reducible rfl; done)); try simp only [Act.put, List.setIfInBounds_toArray, List.set_cons_zero, List.set_cons_succ])
  (refine held_takeA 5 (by rfl) ?_ (by kernel_rfl) (fun _ _ _ h => h) hs7r ?_ ?_; rotate_left; (focus (intro wq hSw; have hrd := hSw; go_simp; try with_reducible rfl; done)); try simp only [Act.put, List.setIfInBounds_toArray, List.set_cons_zero, List.set_cons_succ])
  (refine held_takeA 6 (by rfl) ?_ (by kernel_rfl) (fun _ _ _ h => h) hs7r ?_ ?_; rotate_left; (focus (intro wq hSw; have hrd := hSw; go_simp; try with_reducible rfl; done)); try simp only [Act.put, List.setIfInBounds_toArray, List.set_cons_zero, List.set_cons_succ])
  (refine held_takeA 8 (by rfl) ?_ (by kernel_rfl) (fun _ _ _ h => h) hs7r ?_ ?_; rotate_left; (focus (intro wq hSw; have hrd := hSw; go_simp; try with_reducible rfl; done)); try simp only [Act.put, List.setIfInBounds_toArray, List.set_cons_zero, List.set_cons_succ])
  (refine held_takeA 9 (by rfl) ?_ (by kernel_rfl) (fun _ _ _ h => h) hs7r ?_ ?_; rotate_left; (focus (intro wq hSw; have hrd := hSw; go_simp; try with_reducible rfl; done)); try simp only [Act.put, List.setIfInBounds_toArray, List.set_cons_zero, List.set_cons_succ])
  (refine held_takeA 10 (by rfl) ?_ (by kernel_rfl) (fun _ _ _ h => h) hs7r ?_ ?_; rotate_left; (focus (intro wq hSw; have hrd := hSw; go_simp; try with_reducible rfl; done)); try simp only [Act.put, List.setIfInBounds_toArray, List.set_cons_zero, List.set_cons_succ])
  (refine held_takeA 11 (by rfl) ?_ (by kernel_rfl) (fun _ _ _ h => h) hs7r ?_ ?_; rotate_left; (focus (intro wq hSw; have hrd := hSw; go_simp; try with_reducible rfl; done)); try simp only [Act.put, List.setIfInBounds_toArray, List.set_cons_zero, List.set_cons_succ])
  (refine held_takeA 12 (by rfl) ?_ (by kernel_rfl) (fun _ _ _ h => h) hs7r ?_ ?_; rotate_left; (focus (intro wq hSw; have hrd := hSw; go_simp; try with_reducible rfl; done)); try simp only [Act.put, List.setIfInBounds_toArray, List.set_cons_zero, List.set_cons_succ])
  (refine held_takeA 13 (by rfl) ?_ (by kernel_rfl) (fun _ _ _ h => h) hs7r ?_ ?_; rotate_left; (focus (intro wq hSw; have hrd := hSw; go_simp; try with_reducible rfl; done)); try simp only [Act.put, List.setIfInBounds_toArray, List.set_cons_zero, List.set_cons_succ])
  (refine held_takeA 14 (by rfl) ?_ (by kernel_rfl) (fun _ _ _ h => h) hs7r ?_ ?_; rotate_left; (focus (intro wq hSw; have hrd := hSw; go_simp; try with_reducible rfl; done)); try simp only [Act.put, List.setIfInBounds_toArray, List.set_cons_zero, List.set_cons_succ])
  refine held_callA 7 (by rfl) (by kernel_rfl) (by rfl) (fun KQ hKQ => ?_)
  go_simp
  refine (pWeighS w1.drew g b pc M h1 id r0 r1 wt).mono ?_
  rintro e w2 ⟨rfl, h2, hg2⟩
  replace hg2 : w1.grownBy w2 (some b) := grown_trans (grown_drew (grown_refl w1 (some b))) hg2
  have hr2 := hr1.grown hg2 hrb hXb
  have hX2 : ∀ i, w2.heap.size ≤ i → X i := fun i q => hX i (Nat.le_trans hB.size (Nat.le_trans hg2.size q))
  have e2 : ∀ i, w2.cell? ⟨w.heap.size, i, none⟩ = w1.cell? ⟨w.heap.size, i, none⟩ := fun i => grown_cell hg2 ltq (by omega)
  have hs8r := e2
  refine hKQ.out _ _ hs8r ?_
  clear hKQ KQ
  try simp only [Act.put, List.setIfInBounds_toArray, List.set_cons_zero, List.set_cons_succ]
  refine held_callA 15 (by rfl) (by kernel_rfl) (by rfl) (fun KQ hKQ => ?_)
  go_simp
  refine (refWeigh25 w2 X gr pc' L id wt hr2 (by omega) hX2).mono ?_
  rintro e w3 ⟨rfl, hr3, hg3⟩
  have h3 : PoolIn w3 g b pc _ := h2.grown hg3 (by
    intro q; injection q with q
    obtain ⟨_, _, _, _, _, q1, _⟩ := hr
    have q2 := h.1
    unfold Blk at q1 q2
    rw [q, q1] at q2
    simp at q2) (by intro q; injection q with q; exact hrb q.symm)
  have e3 : ∀ i, w3.cell? ⟨w.heap.size, i, none⟩ = w1.cell? ⟨w.heap.size, i, none⟩ := fun i => (grown_cell hg3 (Nat.lt_of_lt_of_le ltq hg2.size) (by omega)).trans (e2 i)
  have hs9r := e3
  refine hKQ.out _ _ hs9r ?_
  clear hKQ KQ
  try simp only [Act.put, List.setIfInBounds_toArray, List.set_cons_zero, List.set_cons_succ]
  (refine held_takeA 16 (by rfl) ?_ (by kernel_rfl) (fun _ _ _ h => h) hs9r ?_ ?_; rotate_left; (focus (intro wq hSw; have hrd := hSw; go_simp; try with_reducible rfl; done)); try simp only [Act.put, List.setIfInBounds_toArray, List.set_cons_zero, List.set_cons_succ])
  (refine held_takeA 17 (by rfl) ?_ (by kernel_rfl) (fun _ _ _ h => h) hs9r ?_ ?_; rotate_left; (focus (intro wq hSw; have hrd := hSw; go_simp; try with_reducible rfl; done)); try simp only [Act.put, List.setIfInBounds_toArray, List.set_cons_zero, List.set_cons_succ])
  refine wpAnyH_done (by kernel_rfl) ?_ _
  try refine NoPanic.normal ?_
  go_wp2_with fail
  go_ret
  exact ⟨rfl, h3, hr3, w2, grown_trans (grown_of_below hB (Nat.le_refl _) _) hg2, hg3⟩
set_option maxRecDepth 100000 in
set_option maxHeartbeats 2000000 in
theorem act_3 (w : World) (g b : Nat) (pc : Int) (M : List Mem) (X : Nat → Prop) (gr : Nat) (pc' : Int) (L : List Mem) (id ad wt : Int) (on : Bool) (h : PoolIn w g b pc M) (hr : RefIn w X gr pc' L) (hL : L.length ≤ 16) (hXb : ∀ i, X i → i ≠ b) (hX : ∀ i, w.heap.size ≤ i → X i) (r0 : -9223372036854775808 ≤ id) (r1 : id ≤ 9223372036854775807) :
    Calls Try.prog 34 #[.pointer (some ⟨g, 0, none⟩), .pointer (some ⟨gr, 0, none⟩), .agg #[.int .i64 3, .int .i64 id, .int .u32 ad, .int .i64 wt, .bool on]] w fun e w' => e = .returned (.bool ((markR M id on).1 == (markR L id on).1)) ∧ PoolIn w' g b pc ((markR M id on).2) ∧ RefIn w' X gr pc' ((markR L id on).2) ∧ ∃ wm, w.grownBy wm (some b) ∧ wm.grownBy w' (some gr) := by
  have hB := (Below.refl w.heap.size w).alloc (Nat.le_refl _) (.cells #[.int .i64 3, .int .i64 id, .int .u32 ad, .int .i64 wt, .bool on] 28)
  have hq := Blk.new w 28 #[.int .i64 3, .int .i64 id, .int .u32 ad, .int .i64 wt, .bool on]
  have h1 := h.nx hB
  have hr1 := hr.nx hB
  have hrb : gr ≠ b := by obtain ⟨_, _, _, _, _, q, _⟩ := hr; exact ent_ne h.2 q
  have ltb := h.ltb
  have ltr := hr.lt
  go_enter Try.func34, Try.ntmps34
  go_upto_region 1 with (fail)
  generalize w.alloc (.cells #[.int .i64 3, .int .i64 id, .int .u32 ad, .int .i64 wt, .bool on] 28) = w1 at *
  have a0 : w1.cell? ⟨w.heap.size, 0, none⟩ = some (.int .i64 3) := hq.cellv 0 rfl
  have a1 : w1.cell? ⟨w.heap.size, 1, none⟩ = some (.int .i64 id) := hq.cellv 1 rfl
  have a2 : w1.cell? ⟨w.heap.size, 2, none⟩ = some (.int .u32 ad) := hq.cellv 2 rfl
  have a3 : w1.cell? ⟨w.heap.size, 3, none⟩ = some (.int .i64 wt) := hq.cellv 3 rfl
  have a4 : w1.cell? ⟨w.heap.size, 4, none⟩ = some (.bool on) := hq.cellv 4 rfl
  have ltq := hq.lt
  replace h1 : PoolIn w1.drew g b pc M := h1
  go_upto_region 9 with (fail)
  -- region 9: 0 1 2 3 4 5 6C 7 8 9 10 11 12 13C 14 15
  try refine wp_region_noPanic ?_
  have hs10r : (fun w' => ∀ i, w'.cell? ⟨w.heap.size, i, none⟩ = w1.cell? ⟨w.heap.size, i, none⟩) w1.drew := fun _ => rfl
  refine wp_region_held_drew (S := fun w' => ∀ i, w'.cell? ⟨w.heap.size, i, none⟩ = w1.cell? ⟨w.heap.size, i, none⟩) (by kernel_rfl) hs10r (fun _ => ?_)
  (refine held_takeA 0 (by rfl) ?_ (by kernel_rfl) (fun _ _ _ h => h) hs10r ?_ ?_; rotate_left; (focus (intro wq hSw; have hrd := hSw; go_simp; try with_reducible rfl; done)); try simp only [Act.put, List.setIfInBounds_toArray, List.set_cons_zero, List.set_cons_succ])
  (refine held_takeA 1 (by rfl) ?_ (by kernel_rfl) (fun _ _ _ h => h) hs10r ?_ ?_; rotate_left; (focus (intro wq hSw; have hrd := hSw; go_simp; try with_reducible rfl; done)); try simp only [Act.put, List.setIfInBounds_toArray, List.set_cons_zero, List.set_cons_succ])
  (refine held_takeA 2 (by rfl) ?_ (by kernel_rfl) (fun _ _ _ h => h) hs10r ?_ ?_; rotate_left; (focus (intro wq hSw; have hrd := hSw; go_simp; try with_reducible rfl; done)); try simp only [Act.put, List.setIfInBounds_toArray, List.set_cons_zero, List.set_cons_succ])
  (refine held_takeA 3 (by rfl) ?_ (by kernel_rfl) (fun _ _ _ h => h) hs10r ?_ ?_; rotate_left; (focus (intro wq hSw; have hrd := hSw; go_simp; try with_reducible rfl; done)); try simp only [Act.put, List.setIfInBounds_toArray, List.set_cons_zero, List.set_cons_succ])
  (refine held_takeA 4 (by rfl) ?_ (by kernel_rfl) (fun _ _ _ h => h) hs10r ?_ ?_; rotate_left; (focus (intro wq hSw; have hrd := hSw; go_simp; try with_reducible rfl; done)); try simp only [Act.put, List.setIfInBounds_toArray, List.set_cons_zero, List.set_cons_succ])
  (refine held_takeA 5 (by rfl) ?_ (by kernel_rfl) (fun _ _ _ h => h) hs10r ?_ ?_; rotate_left; (focus (intro wq hSw; have hrd := hSw; go_simp; try with_reducible rfl; done)); try simp only [Act.put, List.setIfInBounds_toArray, List.set_cons_zero, List.set_cons_succ])
  (refine held_takeA 7 (by rfl) ?_ (by kernel_rfl) (fun _ _ _ h => h) hs10r ?_ ?_; rotate_left; (focus (intro wq hSw; have hrd := hSw; go_simp; try with_reducible rfl; done)); try simp only [Act.put, List.setIfInBounds_toArray, List.set_cons_zero, List.set_cons_succ])
  (refine held_takeA 8 (by rfl) ?_ (by kernel_rfl) (fun _ _ _ h => h) hs10r ?_ ?_; rotate_left; (focus (intro wq hSw; have hrd := hSw; go_simp; try with_reducible rfl; done)); try simp only [Act.put, List.setIfInBounds_toArray, List.set_cons_zero, List.set_cons_succ])
  (refine held_takeA 9 (by rfl) ?_ (by kernel_rfl) (fun _ _ _ h => h) hs10r ?_ ?_; rotate_left; (focus (intro wq hSw; have hrd := hSw; go_simp; try with_reducible rfl; done)); try simp only [Act.put, List.setIfInBounds_toArray, List.set_cons_zero, List.set_cons_succ])
  (refine held_takeA 10 (by rfl) ?_ (by kernel_rfl) (fun _ _ _ h => h) hs10r ?_ ?_; rotate_left; (focus (intro wq hSw; have hrd := hSw; go_simp; try with_reducible rfl; done)); try simp only [Act.put, List.setIfInBounds_toArray, List.set_cons_zero, List.set_cons_succ])
  (refine held_takeA 11 (by rfl) ?_ (by kernel_rfl) (fun _ _ _ h => h) hs10r ?_ ?_; rotate_left; (focus (intro wq hSw; have hrd := hSw; go_simp; try with_reducible rfl; done)); try simp only [Act.put, List.setIfInBounds_toArray, List.set_cons_zero, List.set_cons_succ])
  (refine held_takeA 12 (by rfl) ?_ (by kernel_rfl) (fun _ _ _ h => h) hs10r ?_ ?_; rotate_left; (focus (intro wq hSw; have hrd := hSw; go_simp; try with_reducible rfl; done)); try simp only [Act.put, List.setIfInBounds_toArray, List.set_cons_zero, List.set_cons_succ])
  refine held_callA 6 (by rfl) (by kernel_rfl) (by rfl) (fun KQ hKQ => ?_)
  go_simp
  refine (pMarkS w1.drew g b pc M h1 id r0 r1 on).mono ?_
  rintro e w2 ⟨rfl, h2, hg2⟩
  replace hg2 : w1.grownBy w2 (some b) := grown_trans (grown_drew (grown_refl w1 (some b))) hg2
  have hr2 := hr1.grown hg2 hrb hXb
  have hX2 : ∀ i, w2.heap.size ≤ i → X i := fun i q => hX i (Nat.le_trans hB.size (Nat.le_trans hg2.size q))
  have e2 : ∀ i, w2.cell? ⟨w.heap.size, i, none⟩ = w1.cell? ⟨w.heap.size, i, none⟩ := fun i => grown_cell hg2 ltq (by omega)
  have hs11r := e2
  refine hKQ.out _ _ hs11r ?_
  clear hKQ KQ
  try simp only [Act.put, List.setIfInBounds_toArray, List.set_cons_zero, List.set_cons_succ]
  refine held_callA 13 (by rfl) (by kernel_rfl) (by rfl) (fun KQ hKQ => ?_)
  go_simp
  refine (refMark25 w2 X gr pc' L id on hr2 (by omega) hX2).mono ?_
  rintro e w3 ⟨rfl, hr3, hg3⟩
  have h3 : PoolIn w3 g b pc _ := h2.grown hg3 (by
    intro q; injection q with q
    obtain ⟨_, _, _, _, _, q1, _⟩ := hr
    have q2 := h.1
    unfold Blk at q1 q2
    rw [q, q1] at q2
    simp at q2) (by intro q; injection q with q; exact hrb q.symm)
  have e3 : ∀ i, w3.cell? ⟨w.heap.size, i, none⟩ = w1.cell? ⟨w.heap.size, i, none⟩ := fun i => (grown_cell hg3 (Nat.lt_of_lt_of_le ltq hg2.size) (by omega)).trans (e2 i)
  have hs12r := e3
  refine hKQ.out _ _ hs12r ?_
  clear hKQ KQ
  try simp only [Act.put, List.setIfInBounds_toArray, List.set_cons_zero, List.set_cons_succ]
  (refine held_takeA 14 (by rfl) ?_ (by kernel_rfl) (fun _ _ _ h => h) hs12r ?_ ?_; rotate_left; (focus (intro wq hSw; have hrd := hSw; go_simp; try with_reducible rfl; done)); try simp only [Act.put, List.setIfInBounds_toArray, List.set_cons_zero, List.set_cons_succ])
  (refine held_takeA 15 (by rfl) ?_ (by kernel_rfl) (fun _ _ _ h => h) hs12r ?_ ?_; rotate_left; (focus (intro wq hSw; have hrd := hSw; go_simp; try with_reducible rfl; done)); try simp only [Act.put, List.setIfInBounds_toArray, List.set_cons_zero, List.set_cons_succ])
  refine wpAnyH_done (by kernel_rfl) ?_ _
  try refine NoPanic.normal ?_
  go_wp2_with fail
  go_ret
  exact ⟨rfl, h3, hr3, w2, grown_trans (grown_of_below hB (Nat.le_refl _) _) hg2, hg3⟩
set_option maxRecDepth 100000 in
set_option maxHeartbeats 2000000 in
theorem act_4 (w : World) (g b : Nat) (pc : Int) (M : List Mem) (X : Nat → Prop) (gr : Nat) (pc' : Int) (L : List Mem) (id ad wt : Int) (on : Bool) (h : PoolIn w g b pc M) (hr : RefIn w X gr pc' L) (hL : L.length ≤ 16) (hXb : ∀ i, X i → i ≠ b) (hX : ∀ i, w.heap.size ≤ i → X i) (r0 : -9223372036854775808 ≤ id) (r1 : id ≤ 9223372036854775807) :
    Calls Try.prog 34 #[.pointer (some ⟨g, 0, none⟩), .pointer (some ⟨gr, 0, none⟩), .agg #[.int .i64 4, .int .i64 id, .int .u32 ad, .int .i64 wt, .bool on]] w fun e w' => e = .returned (.bool ((drainR M id on).1 == (drainR L id on).1)) ∧ PoolIn w' g b pc ((drainR M id on).2) ∧ RefIn w' X gr pc' ((drainR L id on).2) ∧ ∃ wm, w.grownBy wm (some b) ∧ wm.grownBy w' (some gr) := by
  have hB := (Below.refl w.heap.size w).alloc (Nat.le_refl _) (.cells #[.int .i64 4, .int .i64 id, .int .u32 ad, .int .i64 wt, .bool on] 28)
  have hq := Blk.new w 28 #[.int .i64 4, .int .i64 id, .int .u32 ad, .int .i64 wt, .bool on]
  have h1 := h.nx hB
  have hr1 := hr.nx hB
  have hrb : gr ≠ b := by obtain ⟨_, _, _, _, _, q, _⟩ := hr; exact ent_ne h.2 q
  have ltb := h.ltb
  have ltr := hr.lt
  go_enter Try.func34, Try.ntmps34
  go_upto_region 1 with (fail)
  generalize w.alloc (.cells #[.int .i64 4, .int .i64 id, .int .u32 ad, .int .i64 wt, .bool on] 28) = w1 at *
  have a0 : w1.cell? ⟨w.heap.size, 0, none⟩ = some (.int .i64 4) := hq.cellv 0 rfl
  have a1 : w1.cell? ⟨w.heap.size, 1, none⟩ = some (.int .i64 id) := hq.cellv 1 rfl
  have a2 : w1.cell? ⟨w.heap.size, 2, none⟩ = some (.int .u32 ad) := hq.cellv 2 rfl
  have a3 : w1.cell? ⟨w.heap.size, 3, none⟩ = some (.int .i64 wt) := hq.cellv 3 rfl
  have a4 : w1.cell? ⟨w.heap.size, 4, none⟩ = some (.bool on) := hq.cellv 4 rfl
  have ltq := hq.lt
  replace h1 : PoolIn w1.drew g b pc M := h1
  go_upto_region 11 with (fail)
  -- region 11: 0 1 2 3 4 5 6C 7 8 9 10 11 12 13C 14 15
  try refine wp_region_noPanic ?_
  have hs13r : (fun w' => ∀ i, w'.cell? ⟨w.heap.size, i, none⟩ = w1.cell? ⟨w.heap.size, i, none⟩) w1.drew := fun _ => rfl
  refine wp_region_held_drew (S := fun w' => ∀ i, w'.cell? ⟨w.heap.size, i, none⟩ = w1.cell? ⟨w.heap.size, i, none⟩) (by kernel_rfl) hs13r (fun _ => ?_)
  (refine held_takeA 0 (by rfl) ?_ (by kernel_rfl) (fun _ _ _ h => h) hs13r ?_ ?_; rotate_left; (focus (intro wq hSw; have hrd := hSw; go_simp; try with_reducible rfl; done)); try simp only [Act.put, List.setIfInBounds_toArray, List.set_cons_zero, List.set_cons_succ])
  (refine held_takeA 1 (by rfl) ?_ (by kernel_rfl) (fun _ _ _ h => h) hs13r ?_ ?_; rotate_left; (focus (intro wq hSw; have hrd := hSw; go_simp; try with_reducible rfl; done)); try simp only [Act.put, List.setIfInBounds_toArray, List.set_cons_zero, List.set_cons_succ])
  (refine held_takeA 2 (by rfl) ?_ (by kernel_rfl) (fun _ _ _ h => h) hs13r ?_ ?_; rotate_left; (focus (intro wq hSw; have hrd := hSw; go_simp; try with_reducible rfl; done)); try simp only [Act.put, List.setIfInBounds_toArray, List.set_cons_zero, List.set_cons_succ])
  (refine held_takeA 3 (by rfl) ?_ (by kernel_rfl) (fun _ _ _ h => h) hs13r ?_ ?_; rotate_left; (focus (intro wq hSw; have hrd := hSw; go_simp; try with_reducible rfl; done)); try simp only [Act.put, List.setIfInBounds_toArray, List.set_cons_zero, List.set_cons_succ])
  (refine held_takeA 4 (by rfl) ?_ (by kernel_rfl) (fun _ _ _ h => h) hs13r ?_ ?_; rotate_left; (focus (intro wq hSw; have hrd := hSw; go_simp; try with_reducible rfl; done)); try simp only [Act.put, List.setIfInBounds_toArray, List.set_cons_zero, List.set_cons_succ])
  (refine held_takeA 5 (by rfl) ?_ (by kernel_rfl) (fun _ _ _ h => h) hs13r ?_ ?_; rotate_left; (focus (intro wq hSw; have hrd := hSw; go_simp; try with_reducible rfl; done)); try simp only [Act.put, List.setIfInBounds_toArray, List.set_cons_zero, List.set_cons_succ])
  (refine held_takeA 7 (by rfl) ?_ (by kernel_rfl) (fun _ _ _ h => h) hs13r ?_ ?_; rotate_left; (focus (intro wq hSw; have hrd := hSw; go_simp; try with_reducible rfl; done)); try simp only [Act.put, List.setIfInBounds_toArray, List.set_cons_zero, List.set_cons_succ])
  (refine held_takeA 8 (by rfl) ?_ (by kernel_rfl) (fun _ _ _ h => h) hs13r ?_ ?_; rotate_left; (focus (intro wq hSw; have hrd := hSw; go_simp; try with_reducible rfl; done)); try simp only [Act.put, List.setIfInBounds_toArray, List.set_cons_zero, List.set_cons_succ])
  (refine held_takeA 9 (by rfl) ?_ (by kernel_rfl) (fun _ _ _ h => h) hs13r ?_ ?_; rotate_left; (focus (intro wq hSw; have hrd := hSw; go_simp; try with_reducible rfl; done)); try simp only [Act.put, List.setIfInBounds_toArray, List.set_cons_zero, List.set_cons_succ])
  (refine held_takeA 10 (by rfl) ?_ (by kernel_rfl) (fun _ _ _ h => h) hs13r ?_ ?_; rotate_left; (focus (intro wq hSw; have hrd := hSw; go_simp; try with_reducible rfl; done)); try simp only [Act.put, List.setIfInBounds_toArray, List.set_cons_zero, List.set_cons_succ])
  (refine held_takeA 11 (by rfl) ?_ (by kernel_rfl) (fun _ _ _ h => h) hs13r ?_ ?_; rotate_left; (focus (intro wq hSw; have hrd := hSw; go_simp; try with_reducible rfl; done)); try simp only [Act.put, List.setIfInBounds_toArray, List.set_cons_zero, List.set_cons_succ])
  (refine held_takeA 12 (by rfl) ?_ (by kernel_rfl) (fun _ _ _ h => h) hs13r ?_ ?_; rotate_left; (focus (intro wq hSw; have hrd := hSw; go_simp; try with_reducible rfl; done)); try simp only [Act.put, List.setIfInBounds_toArray, List.set_cons_zero, List.set_cons_succ])
  refine held_callA 6 (by rfl) (by kernel_rfl) (by rfl) (fun KQ hKQ => ?_)
  go_simp
  refine (pDrainS w1.drew g b pc M h1 id r0 r1 on).mono ?_
  rintro e w2 ⟨rfl, h2, hg2⟩
  replace hg2 : w1.grownBy w2 (some b) := grown_trans (grown_drew (grown_refl w1 (some b))) hg2
  have hr2 := hr1.grown hg2 hrb hXb
  have hX2 : ∀ i, w2.heap.size ≤ i → X i := fun i q => hX i (Nat.le_trans hB.size (Nat.le_trans hg2.size q))
  have e2 : ∀ i, w2.cell? ⟨w.heap.size, i, none⟩ = w1.cell? ⟨w.heap.size, i, none⟩ := fun i => grown_cell hg2 ltq (by omega)
  have hs14r := e2
  refine hKQ.out _ _ hs14r ?_
  clear hKQ KQ
  try simp only [Act.put, List.setIfInBounds_toArray, List.set_cons_zero, List.set_cons_succ]
  refine held_callA 13 (by rfl) (by kernel_rfl) (by rfl) (fun KQ hKQ => ?_)
  go_simp
  refine (refDrain25 w2 X gr pc' L id on hr2 (by omega) hX2).mono ?_
  rintro e w3 ⟨rfl, hr3, hg3⟩
  have h3 : PoolIn w3 g b pc _ := h2.grown hg3 (by
    intro q; injection q with q
    obtain ⟨_, _, _, _, _, q1, _⟩ := hr
    have q2 := h.1
    unfold Blk at q1 q2
    rw [q, q1] at q2
    simp at q2) (by intro q; injection q with q; exact hrb q.symm)
  have e3 : ∀ i, w3.cell? ⟨w.heap.size, i, none⟩ = w1.cell? ⟨w.heap.size, i, none⟩ := fun i => (grown_cell hg3 (Nat.lt_of_lt_of_le ltq hg2.size) (by omega)).trans (e2 i)
  have hs15r := e3
  refine hKQ.out _ _ hs15r ?_
  clear hKQ KQ
  try simp only [Act.put, List.setIfInBounds_toArray, List.set_cons_zero, List.set_cons_succ]
  (refine held_takeA 14 (by rfl) ?_ (by kernel_rfl) (fun _ _ _ h => h) hs15r ?_ ?_; rotate_left; (focus (intro wq hSw; have hrd := hSw; go_simp; try with_reducible rfl; done)); try simp only [Act.put, List.setIfInBounds_toArray, List.set_cons_zero, List.set_cons_succ])
  (refine held_takeA 15 (by rfl) ?_ (by kernel_rfl) (fun _ _ _ h => h) hs15r ?_ ?_; rotate_left; (focus (intro wq hSw; have hrd := hSw; go_simp; try with_reducible rfl; done)); try simp only [Act.put, List.setIfInBounds_toArray, List.set_cons_zero, List.set_cons_succ])
  refine wpAnyH_done (by kernel_rfl) ?_ _
  try refine NoPanic.normal ?_
  go_wp2_with fail
  go_ret
  exact ⟨rfl, h3, hr3, w2, grown_trans (grown_of_below hB (Nat.le_refl _) _) hg2, hg3⟩
set_option maxRecDepth 100000 in
set_option maxHeartbeats 2000000 in
theorem act_5 (w : World) (k : Int) (v v' : Value) (id ad wt : Int) (on : Bool) (k0 : k ≠ 0) (k1 : k ≠ 1) (k2 : k ≠ 2) (k3 : k ≠ 3) (k4 : k ≠ 4) :
    Calls Try.prog 34 #[v, v', .agg #[.int .i64 k, .int .i64 id, .int .u32 ad, .int .i64 wt, .bool on]] w fun e w' => e = .returned (.bool true) ∧ Below w.heap.size w w' := by
  have hB := (Below.refl w.heap.size w).alloc (Nat.le_refl _) (.cells #[.int .i64 k, .int .i64 id, .int .u32 ad, .int .i64 wt, .bool on] 28)
  have hq := Blk.new w 28 #[.int .i64 k, .int .i64 id, .int .u32 ad, .int .i64 wt, .bool on]
  have d0 : (k == 0) = false := by simpa using k0
  have d1 : (k == 1) = false := by simpa using k1
  have d2 : (k == 2) = false := by simpa using k2
  have d3 : (k == 3) = false := by simpa using k3
  have d4 : (k == 4) = false := by simpa using k4
  go_enter Try.func34, Try.ntmps34
  go_upto_region 1 with (fail)
  generalize w.alloc (.cells #[.int .i64 k, .int .i64 id, .int .u32 ad, .int .i64 wt, .bool on] 28) = w1 at *
  have a0 : w1.cell? ⟨w.heap.size, 0, none⟩ = some (.int .i64 k) := hq.cellv 0 rfl
  go_wp2_with fail
  go_ret
  exact ⟨rfl, hB⟩
theorem act_any (w : World) (g b : Nat) (pc : Int) (M : List Mem) (X : Nat → Prop) (gr : Nat) (pc' : Int) (L : List Mem) (a : ActV) (h : PoolIn w g b pc M) (hr : RefIn w X gr pc' L) (hL : L.length ≤ 16) (hXb : ∀ i, X i → i ≠ b) (hX : ∀ i, w.heap.size ≤ i → X i) (r0 : -9223372036854775808 ≤ a.id) (r1 : a.id ≤ 9223372036854775807) :
    Calls Try.prog 34 #[.pointer (some ⟨g, 0, none⟩), .pointer (some ⟨gr, 0, none⟩), .agg (actC a)] w fun e w' => e = .returned (.bool (actX a M L)) ∧ PoolIn w' g b pc (actM a M) ∧ RefIn w' X gr pc' (actL a L) ∧ ∃ wm, w.grownBy wm (some b) ∧ wm.grownBy w' (some gr) := by
  obtain ⟨k, id, ad, wt, on⟩ := a
  unfold actC actM actL actX
  simp only
  by_cases k0 : k = 0
  · subst k0
    simpa using act_0 w g b pc M X gr pc' L id ad wt on h hr hL hXb hX r0 r1
  simp only [if_neg k0]
  by_cases k1 : k = 1
  · subst k1
    simpa using act_1 w g b pc M X gr pc' L id ad wt on h hr hL hXb hX r0 r1
  simp only [if_neg k1]
  by_cases k2 : k = 2
  · subst k2
    simpa using act_2 w g b pc M X gr pc' L id ad wt on h hr hL hXb hX r0 r1
  simp only [if_neg k2]
  by_cases k3 : k = 3
  · subst k3
    simpa using act_3 w g b pc M X gr pc' L id ad wt on h hr hL hXb hX r0 r1
  simp only [if_neg k3]
  by_cases k4 : k = 4
  · subst k4
    simpa using act_4 w g b pc M X gr pc' L id ad wt on h hr hL hXb hX r0 r1
  simp only [if_neg k4]
  refine (act_5 w k _ _ id ad wt on k0 k1 k2 k3 k4).mono ?_
  rintro e w' ⟨rfl, hb⟩
  exact ⟨rfl, h.nx hb, hr.nx hb, w', grown_of_below hb (Nat.le_refl _) _, grown_refl _ _⟩
end Go.Proofs.Ytejgekoinbdhjaa
