/- timer: both tables in one word; act. -/
import Derived.Test.YtejgekoinbdhjaaTjT
import Derived.Test.YtejgekoinbdhjaaTjU
namespace Go.Proofs.Ytejgekoinbdhjaa
set_option linter.unusedVariables false
open Go Go.RowKit Go.Maps

structure TwoT (w : World) (X Y : Nat → Prop) (g d : Nat) (mo no co : Int) (M : List Slo) : Prop where
  t : TabX w X g mo no co M
  r : RefT w Y d mo no (rowsOf M)
  dj : ∀ k, X k → ¬ Y k
/-- X is written, and becomes X'. -/
def Stp (w w' : World) (X X' : Nat → Prop) : Prop := (∀ k, X' k → X k ∨ w.heap.size ≤ k) ∧ Chg w w' X
theorem Stp.refl (w : World) (X : Nat → Prop) : Stp w w X X := ⟨fun _ q => .inl q, Chg.refl _ _⟩
theorem Stp.below {w w' : World} {X : Nat → Prop} (h : Below w.heap.size w w') : Stp w w' X X := ⟨fun _ q => .inl q, Chg.of_below h⟩
theorem Stp.trans {w w' w'' : World} {X X' X'' : Nat → Prop} (h : Stp w w' X X') (k : Stp w' w'' X' X'') : Stp w w'' X X'' :=
  ⟨fun i q => (k.1 i q).elim (h.1 i) fun q => .inr (Nat.le_trans h.2.size q), h.2.trans k.2 fun i hi q => (h.1 i q).resolve_right (by omega)⟩
structure StpB (w w' : World) (X Y X' Y' : Nat → Prop) : Prop where
  x : ∀ k, X' k → X k ∨ w.heap.size ≤ k
  y : ∀ k, Y' k → Y k ∨ w.heap.size ≤ k
  c : Chg w w' (fun k => X k ∨ Y k)
theorem StpB.refl (w : World) (X Y : Nat → Prop) : StpB w w X Y X Y := ⟨fun _ q => .inl q, fun _ q => .inl q, Chg.refl _ _⟩
theorem StpB.trans {w w' w'' : World} {X Y X' Y' X'' Y'' : Nat → Prop} (h : StpB w w' X Y X' Y') (k : StpB w' w'' X' Y' X'' Y'') : StpB w w'' X Y X'' Y'' :=
  ⟨fun i q => (k.x i q).elim (h.x i) fun q => .inr (Nat.le_trans h.c.size q), fun i q => (k.y i q).elim (h.y i) fun q => .inr (Nat.le_trans h.c.size q),
    h.c.trans k.c fun i hi q => q.elim (fun q => .inl ((h.x i q).resolve_right (by omega))) fun q => .inr ((h.y i q).resolve_right (by omega))⟩
theorem StpB.below {w w' : World} {X Y : Nat → Prop} (h : Below w.heap.size w w') : StpB w w' X Y X Y := ⟨fun _ q => .inl q, fun _ q => .inl q, Chg.of_below h⟩
section
variable {w w1 w2 : World} {X Y X1 Y1 : Nat → Prop} {g d : Nat} {mo no co no' co' : Int} {M M' : List Slo}
theorem TwoT.nx (h : TwoT w X Y g d mo no co M) (hb : Below w.heap.size w w1) : TwoT w1 X Y g d mo no co M := ⟨h.t.nx hb, h.r.nx hb, h.dj⟩
theorem TwoT.step (h : TwoT w X Y g d mo no co M) (h1 : TabX w1 X1 g mo no' co' M') (s1 : Stp w w1 X X1) (h2 : RefT w2 Y1 d mo no' (rowsOf M')) (s2 : Stp w1 w2 Y Y1) :
    TwoT w2 X1 Y1 g d mo no' co' M' ∧ StpB w w2 X Y X1 Y1 := by
  have hXY : ∀ k, X1 k → ¬ Y k := fun k q r => (s1.1 k q).elim (fun q => h.dj k q r) fun q => by have := h.r.lt k r; omega
  refine ⟨⟨h1.chg s2.2 hXY, h2, fun k q r => (s2.1 k r).elim (hXY k q) fun r => by have := h1.lt k q; omega⟩, s1.1, fun k q => (s2.1 k q).elim .inl fun q => .inr (Nat.le_trans s1.2.size q), ?_⟩
  exact (s1.2.mono fun i _ q => .inl q).trans s2.2 fun _ _ q => .inr q
theorem TwoT.away (h : TwoT w X Y g d mo no co M) (s1 : Stp w w1 X X1) : RefT w1 Y d mo no (rowsOf M) := h.r.chg s1.2 fun k r q => h.dj k q r
end
def armC (mo id n : Int) : Int := if id < 0 ∨ mo ≤ id then 9 else if n < 1 then 2 else 0
def armM (mo no co : Int) (M : List Slo) (id n : Int) : List Slo := if id < 0 ∨ mo ≤ id ∨ n < 1 then M else noId id M ++ [⟨id, addT no n, co + 1⟩]
def armO (mo co id n : Int) : Int := if id < 0 ∨ mo ≤ id ∨ n < 1 then co else co + 1
theorem armM_len (mo no co : Int) (M : List Slo) (id n : Int) : (armM mo no co M id n).length ≤ M.length + 1 := by
  unfold armM
  split
  · omega
  · have : (noId id M).length ≤ M.length := List.length_filter_le _ _
    rw [List.length_append]; simp only [List.length_singleton]; omega
theorem armO_le (mo co id n : Int) : co ≤ armO mo co id n ∧ armO mo co id n ≤ co + 1 := by
  unfold armO
  split <;> omega
section
variable {w : World} {X Y : Nat → Prop} {g d : Nat} {mo no co : Int} {M : List Slo}
theorem armS (h : TabX w X g mo no co M) (id n : Int) (hno : 0 ≤ no ∧ no < 1099511627776) (hco5 : co ≤ 5000) :
    Calls Try.prog 54 #[.pointer (some ⟨g, 0, none⟩), .int .i64 id, .int .i64 n] w fun e w' => e = .returned (.int .i64 (armC mo id n)) ∧ ∃ X', TabX w' X' g mo no (armO mo co id n) (armM mo no co M id n) ∧ Stp w w' X X' := by
  unfold armC armO armM
  by_cases h0 : id < 0 ∨ mo ≤ id
  · rw [if_pos h0, if_pos (by omega), if_pos (by omega)]
    refine (armBadX w X g mo no co M h id n h0).mono ?_
    rintro e w' ⟨rfl, rfl⟩
    exact ⟨rfl, X, h, Stp.refl _ _⟩
  rw [if_neg h0]
  by_cases hn : n < 1
  · rw [if_pos hn, if_pos (by omega), if_pos (by omega)]
    refine (armArgX w X g mo no co M h id n (by omega) (by omega) hn).mono ?_
    rintro e w' ⟨rfl, rfl⟩
    exact ⟨rfl, X, h, Stp.refl _ _⟩
  rw [if_neg hn, if_neg (by omega), if_neg (by omega)]
  refine (armX h id n (by omega) (by omega) hno hco5).mono ?_
  rintro e w' ⟨rfl, h1, h2⟩
  exact ⟨rfl, _, h1, fun k q => q.imp (fun q => q) fun q => q.1, h2⟩
theorem refArmS (h : RefT w Y d mo no (rowsOf M)) (hM : M.length ≤ 100000) (hids : M.Pairwise fun a b => a.id ≠ b.id) (id n : Int) (co : Int) :
    Calls Try.prog 143 #[.pointer (some ⟨d, 0, none⟩), .int .i64 id, .int .i64 n] w fun e w' => e = .returned (.int .i64 (armC mo id n)) ∧ ∃ Y', RefT w' Y' d mo no (rowsOf (armM mo no co M id n)) ∧ Stp w w' Y Y' := by
  unfold armC armM
  by_cases h0 : id < 0 ∨ mo ≤ id
  · rw [if_pos h0, if_pos (by omega)]
    refine (refArmBad w Y d mo no _ h id n h0).mono ?_
    rintro e w' ⟨rfl, rfl⟩
    exact ⟨rfl, Y, h, Stp.refl _ _⟩
  rw [if_neg h0]
  by_cases hn : n < 1
  · rw [if_pos hn, if_pos (by omega)]
    refine (refArmArg w Y d mo no _ h id n (by omega) (by omega) hn).mono ?_
    rintro e w' ⟨rfl, rfl⟩
    exact ⟨rfl, Y, h, Stp.refl _ _⟩
  rw [if_neg hn, if_neg (by omega)]
  refine (refArm w Y d mo no _ h (by unfold rowsOf; rw [List.length_map]; exact hM) id n (by omega) (by omega) (by omega)).mono ?_
  rintro e w' ⟨rfl, h1, h2⟩
  rw [drop_rel M id hids] at h1
  refine ⟨rfl, fun k => Y k ∨ (w.heap.size ≤ k ∧ k < w'.heap.size), ?_, fun k q => q.imp (fun q => q) fun q => q.1, h2⟩
  have e : rowsOf (noId id M ++ [⟨id, addT no n, co + 1⟩]) = rowsOf (noId id M) ++ [(id, addT no n)] := by unfold rowsOf; rw [List.map_append]; rfl
  rw [e]
  exact h1
theorem cancelS (h : TabX w X g mo no co M) (id : Int) (r0 : -9223372036854775808 ≤ id) (r1 : id ≤ 9223372036854775807) :
    Calls Try.prog 61 #[.pointer (some ⟨g, 0, none⟩), .int .i64 id] w fun e w' => e = .returned (.bool (hasId id M)) ∧ TabX w' X g mo no co (noId id M) ∧ Stp w w' X X := by
  refine (cancelX h id r0 r1).mono ?_
  rintro e w' ⟨rfl, h1, h2⟩
  exact ⟨rfl, h1, fun _ q => .inl q, h2⟩
theorem refCancelS (h : RefT w Y d mo no (rowsOf M)) (hM : M.length ≤ 100000) (hids : M.Pairwise fun a b => a.id ≠ b.id) (id : Int) :
    Calls Try.prog 144 #[.pointer (some ⟨d, 0, none⟩), .int .i64 id] w fun e w' => e = .returned (.bool (hasId id M)) ∧ ∃ Y', RefT w' Y' d mo no (rowsOf (noId id M)) ∧ Stp w w' Y Y' := by
  refine (refCancel w Y d mo no _ h (by unfold rowsOf; rw [List.length_map]; omega) id).mono ?_
  rintro e w' ⟨rfl, h1, h2⟩
  rw [drop_rel M id hids] at h1 ⊢
  exact ⟨rfl, _, h1, fun k q => q.imp (fun q => q) fun q => q.1, h2.mono fun i _ q => by rw [q]; obtain ⟨v, -, -, -, q, -⟩ := h; exact q _ (.inl rfl)⟩
theorem refIds (hg : ∀ s ∈ M, SloIn mo co s) (hmo : mo ≤ 1024) : ∀ r ∈ rowsOf M, 0 ≤ r.1 ∧ r.1 < 1000000 := fun r hr => by
  obtain ⟨s, hs, rfl⟩ := List.mem_map.1 hr
  have := hg s hs
  unfold SloIn at this
  exact ⟨this.1, by show s.id < 1000000; omega⟩
theorem RefT.mine (h : RefT w Y d mo no (rowsOf M)) : Y d := by obtain ⟨v, -, -, -, q, -⟩ := h; exact q _ (.inl rfl)
theorem refTickS (h : RefT w Y d mo no (rowsOf M)) (hM : M.length ≤ 100000) (h0 : 0 ≤ no) (hno : no < 1099511627776) (hid : ∀ r ∈ rowsOf M, 0 ≤ r.1 ∧ r.1 < 1000000) :
    Calls Try.prog 145 #[.pointer (some ⟨d, 0, none⟩)] w fun e w' => ∃ lv Y', e = .returned lv ∧ Rows intK w' w.heap.size w.heap.size 3 lv ((M.filter (isAt (no + 1))).map Slo.id) ∧ RefT w' Y' d mo (no + 1) (rowsOf (M.filter (notAt (no + 1)))) ∧ Stp w w' Y Y' := by
  refine (refTick w Y d mo no _ h (by unfold rowsOf; rw [List.length_map]; exact hM) h0 hno hid).mono ?_
  rintro e w' ⟨lv, Y', rfl, h1, h2, h3, h4, h5⟩
  rw [due_rel] at h1
  rw [rest_rel] at h2
  exact ⟨lv, Y', rfl, h1, h2, h3, h5.mono fun i _ q => by rw [q]; exact h.mine⟩
theorem refSkipS (h : RefT w Y d mo no (rowsOf M)) (hM : M.length ≤ 100000) (h0 : 0 ≤ no) (hno : no < 1000000000) (hid : ∀ r ∈ rowsOf M, 0 ≤ r.1 ∧ r.1 < 1000000) (n : Int) (m : Nat) (hm : m = n.toNat) (hmm : m ≤ 2000) :
    Calls Try.prog 146 #[.pointer (some ⟨d, 0, none⟩), .int .i64 n] w fun e w' => ∃ lv Y', e = .returned lv ∧ Rows intK w' w.heap.size w.heap.size 3 lv (skX m no M).1 ∧ RefT w' Y' d mo (no + m) (rowsOf (skX m no M).2) ∧ Stp w w' Y Y' := by
  refine (refSkip w Y d mo no _ h (by unfold rowsOf; rw [List.length_map]; exact hM) h0 hno hid n m hm hmm).mono ?_
  rintro e w' ⟨lv, Y', rfl, h1, h2, h3, h4, h5⟩
  rw [sk_rel] at h1 h2
  exact ⟨lv, Y', rfl, h1, h2, h3, h5.mono fun i _ q => by rw [q]; exact h.mine⟩
end
def ActPost (w : World) (X Y : Nat → Prop) (g d : Nat) (mo no co : Int) (M : List Slo) (e : Ending) (w' : World) : Prop :=
  e = .returned (.bool true) ∧ ∃ X' Y' no' co' M', TwoT w' X' Y' g d mo no' co' M' ∧ StpB w w' X Y X' Y' ∧ (no ≤ no' ∧ no' ≤ no + 2000) ∧ (co ≤ co' ∧ co' ≤ co + 1) ∧ M'.length ≤ M.length + 1
set_option maxRecDepth 100000 in
set_option maxHeartbeats 4000000 in
theorem actT_0 (w : World) (X Y : Nat → Prop) (g d : Nat) (mo no co : Int) (M : List Slo) (h : TwoT w X Y g d mo no co M) (hM : M.length ≤ 100000) (h0 : 0 ≤ no) (hno : no ≤ 1000000) (hco : co ≤ 4000) (id n : Int) (r0 : -9223372036854775808 ≤ id) (r1 : id ≤ 9223372036854775807) :
    Calls Try.prog 68 #[.pointer (some ⟨g, 0, none⟩), .pointer (some ⟨d, 0, none⟩), .agg #[.int .i64 0, .int .i64 id, .int .i64 n]] w (ActPost w X Y g d mo no co M) := by
  have hB := (Below.refl w.heap.size w).alloc (Nat.le_refl _) (.cells #[.int .i64 0, .int .i64 id, .int .i64 n] 97)
  have hq := Blk.new w 97 #[.int .i64 0, .int .i64 id, .int .i64 n]
  have h1 := h.nx hB
  have hids := h.t.good.2.2.2.1
  have hmo := h.t.good.1.2
  have hrid := refIds h.t.good.2.2.2.2.2 hmo
  have hXl : ∀ k, X k → k < w.heap.size := h.t.lt
  have hYl : ∀ k, Y k → k < w.heap.size := h.r.lt
  go_enter Try.func68, Try.ntmps68
  go_upto_region 1 with (fail)
  generalize w.alloc (.cells #[.int .i64 0, .int .i64 id, .int .i64 n] 97) = w1 at *
  have a0 : w1.cell? ⟨w.heap.size, 0, none⟩ = some (.int .i64 0) := hq.cellv 0 rfl
  have a1 : w1.cell? ⟨w.heap.size, 1, none⟩ = some (.int .i64 id) := hq.cellv 1 rfl
  have a2 : w1.cell? ⟨w.heap.size, 2, none⟩ = some (.int .i64 n) := hq.cellv 2 rfl
  have ltq := hq.lt
  go_upto_region 3 with (fail)
  have h1 := h1.nx (Below.refl _ _).drew
  -- region 3: 0 1 2 3 4 5C 6 7 8 9 10 11C 12 13
  try refine wp_region_noPanic ?_
  have hs1r : (fun w' => ∀ i, w'.cell? ⟨w.heap.size, i, none⟩ = w1.cell? ⟨w.heap.size, i, none⟩) w1.drew := fun _ => rfl
  refine wp_region_held_drew (S := fun w' => ∀ i, w'.cell? ⟨w.heap.size, i, none⟩ = w1.cell? ⟨w.heap.size, i, none⟩) (by kernel_rfl) hs1r (fun _ => ?_)
  (refine held_takeA 0 (by rfl) ?_ (by kernel_rfl) (fun _ _ _ h => h) hs1r ?_ ?_; rotate_left; (focus (intro wq hSw; have hrd := hSw; go_simp; try with_reducible rfl; done)); try simp only [Act.put, List.setIfInBounds_toArray, List.set_cons_zero, List.set_cons_succ])
  (refine held_takeA 1 (by rfl) ?_ (by kernel_rfl) (fun _ _ _ h => h) hs1r ?_ ?_; rotate_left; (focus (intro wq hSw; have hrd := hSw; go_simp; try with_reducible rfl; done)); try simp only [Act.put, List.setIfInBounds_toArray, List.set_cons_zero, List.set_cons_succ])
  (refine held_takeA 2 (by rfl) ?_ (by kernel_rfl) (fun _ _ _ h => h) hs1r ?_ ?_; rotate_left; (focus (intro wq hSw; have hrd := hSw; go_simp; try with_reducible rfl; done)); try simp only [Act.put, List.setIfInBounds_toArray, List.set_cons_zero, List.set_cons_succ])
  (refine held_takeA 3 (by rfl) ?_ (by kernel_rfl) (fun _ _ _ h => h) hs1r ?_ ?_; rotate_left; (focus (intro wq hSw; have hrd := hSw; go_simp; try with_reducible rfl; done)); try simp only [Act.put, List.setIfInBounds_toArray, List.set_cons_zero, List.set_cons_succ])
  (refine held_takeA 4 (by rfl) ?_ (by kernel_rfl) (fun _ _ _ h => h) hs1r ?_ ?_; rotate_left; (focus (intro wq hSw; have hrd := hSw; go_simp; try with_reducible rfl; done)); try simp only [Act.put, List.setIfInBounds_toArray, List.set_cons_zero, List.set_cons_succ])
  (refine held_takeA 6 (by rfl) ?_ (by kernel_rfl) (fun _ _ _ h => h) hs1r ?_ ?_; rotate_left; (focus (intro wq hSw; have hrd := hSw; go_simp; try with_reducible rfl; done)); try simp only [Act.put, List.setIfInBounds_toArray, List.set_cons_zero, List.set_cons_succ])
  (refine held_takeA 7 (by rfl) ?_ (by kernel_rfl) (fun _ _ _ h => h) hs1r ?_ ?_; rotate_left; (focus (intro wq hSw; have hrd := hSw; go_simp; try with_reducible rfl; done)); try simp only [Act.put, List.setIfInBounds_toArray, List.set_cons_zero, List.set_cons_succ])
  (refine held_takeA 8 (by rfl) ?_ (by kernel_rfl) (fun _ _ _ h => h) hs1r ?_ ?_; rotate_left; (focus (intro wq hSw; have hrd := hSw; go_simp; try with_reducible rfl; done)); try simp only [Act.put, List.setIfInBounds_toArray, List.set_cons_zero, List.set_cons_succ])
  (refine held_takeA 9 (by rfl) ?_ (by kernel_rfl) (fun _ _ _ h => h) hs1r ?_ ?_; rotate_left; (focus (intro wq hSw; have hrd := hSw; go_simp; try with_reducible rfl; done)); try simp only [Act.put, List.setIfInBounds_toArray, List.set_cons_zero, List.set_cons_succ])
  (refine held_takeA 10 (by rfl) ?_ (by kernel_rfl) (fun _ _ _ h => h) hs1r ?_ ?_; rotate_left; (focus (intro wq hSw; have hrd := hSw; go_simp; try with_reducible rfl; done)); try simp only [Act.put, List.setIfInBounds_toArray, List.set_cons_zero, List.set_cons_succ])
  refine held_callA 5 (by rfl) (by kernel_rfl) (by rfl) (fun KQ hKQ => ?_)
  go_simp
  refine (armS h1.t id n (by omega) (by omega)).mono ?_
  rintro e w2 ⟨rfl, X2, h2, s2⟩
  have hr2 := h1.away s2
  have e2 : ∀ i, w2.cell? ⟨w.heap.size, i, none⟩ = w1.cell? ⟨w.heap.size, i, none⟩ := fun i => s2.2.cell (p := ⟨w.heap.size, i, none⟩) ltq (fun q => absurd (hXl _ q) (Nat.lt_irrefl _))
  have hs2r := e2
  refine hKQ.out _ _ hs2r ?_
  clear hKQ KQ
  try simp only [Act.put, List.setIfInBounds_toArray, List.set_cons_zero, List.set_cons_succ]
  refine held_callA 11 (by rfl) (by kernel_rfl) (by rfl) (fun KQ hKQ => ?_)
  go_simp
  refine (refArmS hr2 hM hids id n co).mono ?_
  rintro e w3 ⟨rfl, Y3, h3, s3⟩
  have e3 : ∀ i, w3.cell? ⟨w.heap.size, i, none⟩ = w1.cell? ⟨w.heap.size, i, none⟩ := fun i => (s3.2.cell (p := ⟨w.heap.size, i, none⟩) (Nat.lt_of_lt_of_le ltq s2.2.size) (fun q => absurd (hYl _ q) (Nat.lt_irrefl _))).trans (e2 i)
  obtain ⟨hT, hS⟩ := h1.step h2 s2 h3 s3
  have hS := (StpB.below (X := X) (Y := Y) (hB.trans (show Below w.heap.size w1 w1.drew from (Below.refl _ _).drew))).trans hS
  have hs3r := e3
  refine hKQ.out _ _ hs3r ?_
  clear hKQ KQ
  try simp only [Act.put, List.setIfInBounds_toArray, List.set_cons_zero, List.set_cons_succ]
  (refine held_takeA 12 (by rfl) ?_ (by kernel_rfl) (fun _ _ _ h => h) hs3r ?_ ?_; rotate_left; (focus (intro wq hSw; have hrd := hSw; go_simp; try with_reducible rfl; done)); try simp only [Act.put, List.setIfInBounds_toArray, List.set_cons_zero, List.set_cons_succ])
  (refine held_takeA 13 (by rfl) ?_ (by kernel_rfl) (fun _ _ _ h => h) hs3r ?_ ?_; rotate_left; (focus (intro wq hSw; have hrd := hSw; go_simp; try with_reducible rfl; done)); try simp only [Act.put, List.setIfInBounds_toArray, List.set_cons_zero, List.set_cons_succ])
  refine wpAnyH_done (by kernel_rfl) ?_ _
  try refine NoPanic.normal ?_
  have l1 := armO_le mo co id n
  have l2 := armM_len mo no co M id n
  go_wp2_with fail
  go_ret
  exact ⟨ret_bool (by simp), X2, Y3, no, _, _, hT, hS, by omega, l1, l2⟩
set_option maxRecDepth 100000 in
set_option maxHeartbeats 4000000 in
theorem actT_1 (w : World) (X Y : Nat → Prop) (g d : Nat) (mo no co : Int) (M : List Slo) (h : TwoT w X Y g d mo no co M) (hM : M.length ≤ 100000) (h0 : 0 ≤ no) (hno : no ≤ 1000000) (hco : co ≤ 4000) (id n : Int) (r0 : -9223372036854775808 ≤ id) (r1 : id ≤ 9223372036854775807) :
    Calls Try.prog 68 #[.pointer (some ⟨g, 0, none⟩), .pointer (some ⟨d, 0, none⟩), .agg #[.int .i64 1, .int .i64 id, .int .i64 n]] w (ActPost w X Y g d mo no co M) := by
  have hB := (Below.refl w.heap.size w).alloc (Nat.le_refl _) (.cells #[.int .i64 1, .int .i64 id, .int .i64 n] 97)
  have hq := Blk.new w 97 #[.int .i64 1, .int .i64 id, .int .i64 n]
  have h1 := h.nx hB
  have hids := h.t.good.2.2.2.1
  have hmo := h.t.good.1.2
  have hrid := refIds h.t.good.2.2.2.2.2 hmo
  have hXl : ∀ k, X k → k < w.heap.size := h.t.lt
  have hYl : ∀ k, Y k → k < w.heap.size := h.r.lt
  go_enter Try.func68, Try.ntmps68
  go_upto_region 1 with (fail)
  generalize w.alloc (.cells #[.int .i64 1, .int .i64 id, .int .i64 n] 97) = w1 at *
  have a0 : w1.cell? ⟨w.heap.size, 0, none⟩ = some (.int .i64 1) := hq.cellv 0 rfl
  have a1 : w1.cell? ⟨w.heap.size, 1, none⟩ = some (.int .i64 id) := hq.cellv 1 rfl
  have a2 : w1.cell? ⟨w.heap.size, 2, none⟩ = some (.int .i64 n) := hq.cellv 2 rfl
  have ltq := hq.lt
  go_upto_region 5 with (fail)
  have h1 := h1.nx (Below.refl _ _).drew
  -- region 5: 0 1 2 3C 4 5 6 7C 8 9
  try refine wp_region_noPanic ?_
  have hs4r : (fun w' => ∀ i, w'.cell? ⟨w.heap.size, i, none⟩ = w1.cell? ⟨w.heap.size, i, none⟩) w1.drew := fun _ => rfl
  refine wp_region_held_drew (S := fun w' => ∀ i, w'.cell? ⟨w.heap.size, i, none⟩ = w1.cell? ⟨w.heap.size, i, none⟩) (by kernel_rfl) hs4r (fun _ => ?_)
  (refine held_takeA 0 (by rfl) ?_ (by kernel_rfl) (fun _ _ _ h => h) hs4r ?_ ?_; rotate_left; (focus (intro wq hSw; have hrd := hSw; go_simp; try with_reducible rfl; done)); try simp only [Act.put, List.setIfInBounds_toArray, List.set_cons_zero, List.set_cons_succ])
  (refine held_takeA 1 (by rfl) ?_ (by kernel_rfl) (fun _ _ _ h => h) hs4r ?_ ?_; rotate_left; (focus (intro wq hSw; have hrd := hSw; go_simp; try with_reducible rfl; done)); try simp only [Act.put, List.setIfInBounds_toArray, List.set_cons_zero, List.set_cons_succ])
  (refine held_takeA 2 (by rfl) ?_ (by kernel_rfl) (fun _ _ _ h => h) hs4r ?_ ?_; rotate_left; (focus (intro wq hSw; have hrd := hSw; go_simp; try with_reducible rfl; done)); try simp only [Act.put, List.setIfInBounds_toArray, List.set_cons_zero, List.set_cons_succ])
  (refine held_takeA 4 (by rfl) ?_ (by kernel_rfl) (fun _ _ _ h => h) hs4r ?_ ?_; rotate_left; (focus (intro wq hSw; have hrd := hSw; go_simp; try with_reducible rfl; done)); try simp only [Act.put, List.setIfInBounds_toArray, List.set_cons_zero, List.set_cons_succ])
  (refine held_takeA 5 (by rfl) ?_ (by kernel_rfl) (fun _ _ _ h => h) hs4r ?_ ?_; rotate_left; (focus (intro wq hSw; have hrd := hSw; go_simp; try with_reducible rfl; done)); try simp only [Act.put, List.setIfInBounds_toArray, List.set_cons_zero, List.set_cons_succ])
  (refine held_takeA 6 (by rfl) ?_ (by kernel_rfl) (fun _ _ _ h => h) hs4r ?_ ?_; rotate_left; (focus (intro wq hSw; have hrd := hSw; go_simp; try with_reducible rfl; done)); try simp only [Act.put, List.setIfInBounds_toArray, List.set_cons_zero, List.set_cons_succ])
  refine held_callA 3 (by rfl) (by kernel_rfl) (by rfl) (fun KQ hKQ => ?_)
  go_simp
  refine (cancelS h1.t id r0 r1).mono ?_
  rintro e w2 ⟨rfl, h2, s2⟩
  have hr2 := h1.away s2
  have e2 : ∀ i, w2.cell? ⟨w.heap.size, i, none⟩ = w1.cell? ⟨w.heap.size, i, none⟩ := fun i => s2.2.cell (p := ⟨w.heap.size, i, none⟩) ltq (fun q => absurd (hXl _ q) (Nat.lt_irrefl _))
  have hs5r := e2
  refine hKQ.out _ _ hs5r ?_
  clear hKQ KQ
  try simp only [Act.put, List.setIfInBounds_toArray, List.set_cons_zero, List.set_cons_succ]
  refine held_callA 7 (by rfl) (by kernel_rfl) (by rfl) (fun KQ hKQ => ?_)
  go_simp
  refine (refCancelS hr2 hM hids id).mono ?_
  rintro e w3 ⟨rfl, Y3, h3, s3⟩
  have e3 : ∀ i, w3.cell? ⟨w.heap.size, i, none⟩ = w1.cell? ⟨w.heap.size, i, none⟩ := fun i => (s3.2.cell (p := ⟨w.heap.size, i, none⟩) (Nat.lt_of_lt_of_le ltq s2.2.size) (fun q => absurd (hYl _ q) (Nat.lt_irrefl _))).trans (e2 i)
  obtain ⟨hT, hS⟩ := h1.step h2 s2 h3 s3
  have hS := (StpB.below (X := X) (Y := Y) (hB.trans (show Below w.heap.size w1 w1.drew from (Below.refl _ _).drew))).trans hS
  have hs6r := e3
  refine hKQ.out _ _ hs6r ?_
  clear hKQ KQ
  try simp only [Act.put, List.setIfInBounds_toArray, List.set_cons_zero, List.set_cons_succ]
  (refine held_takeA 8 (by rfl) ?_ (by kernel_rfl) (fun _ _ _ h => h) hs6r ?_ ?_; rotate_left; (focus (intro wq hSw; have hrd := hSw; go_simp; try with_reducible rfl; done)); try simp only [Act.put, List.setIfInBounds_toArray, List.set_cons_zero, List.set_cons_succ])
  (refine held_takeA 9 (by rfl) ?_ (by kernel_rfl) (fun _ _ _ h => h) hs6r ?_ ?_; rotate_left; (focus (intro wq hSw; have hrd := hSw; go_simp; try with_reducible rfl; done)); try simp only [Act.put, List.setIfInBounds_toArray, List.set_cons_zero, List.set_cons_succ])
  refine wpAnyH_done (by kernel_rfl) ?_ _
  try refine NoPanic.normal ?_
  have l2 : (noId id M).length ≤ M.length := List.length_filter_le _ _
  go_wp2_with fail
  go_ret
  exact ⟨ret_bool (by simp), X, Y3, no, _, _, hT, hS, by omega, by omega, by omega⟩
set_option maxRecDepth 100000 in
set_option maxHeartbeats 4000000 in
theorem actT_2 (w : World) (X Y : Nat → Prop) (g d : Nat) (mo no co : Int) (M : List Slo) (h : TwoT w X Y g d mo no co M) (hM : M.length ≤ 100000) (h0 : 0 ≤ no) (hno : no ≤ 1000000) (hco : co ≤ 4000) (id n : Int) (r0 : -9223372036854775808 ≤ id) (r1 : id ≤ 9223372036854775807) :
    Calls Try.prog 68 #[.pointer (some ⟨g, 0, none⟩), .pointer (some ⟨d, 0, none⟩), .agg #[.int .i64 2, .int .i64 id, .int .i64 n]] w (ActPost w X Y g d mo no co M) := by
  have hB := (Below.refl w.heap.size w).alloc (Nat.le_refl _) (.cells #[.int .i64 2, .int .i64 id, .int .i64 n] 97)
  have hq := Blk.new w 97 #[.int .i64 2, .int .i64 id, .int .i64 n]
  have h1 := h.nx hB
  have hids := h.t.good.2.2.2.1
  have hmo := h.t.good.1.2
  have hrid := refIds h.t.good.2.2.2.2.2 hmo
  have hXl : ∀ k, X k → k < w.heap.size := h.t.lt
  have hYl : ∀ k, Y k → k < w.heap.size := h.r.lt
  go_enter Try.func68, Try.ntmps68
  go_upto_region 1 with (fail)
  generalize w.alloc (.cells #[.int .i64 2, .int .i64 id, .int .i64 n] 97) = w1 at *
  have a0 : w1.cell? ⟨w.heap.size, 0, none⟩ = some (.int .i64 2) := hq.cellv 0 rfl
  have a1 : w1.cell? ⟨w.heap.size, 1, none⟩ = some (.int .i64 id) := hq.cellv 1 rfl
  have a2 : w1.cell? ⟨w.heap.size, 2, none⟩ = some (.int .i64 n) := hq.cellv 2 rfl
  have ltq := hq.lt
  have lz : (M.filter (notAt (no + 1))).length ≤ M.length := List.length_filter_le _ _
  have lf : ((M.filter (isAt (no + 1))).map Slo.id).length ≤ M.length := by rw [List.length_map]; exact List.length_filter_le _ _
  obtain ⟨Z, hZ⟩ : ∃ Z, Z = (M.filter (isAt (no + 1))).map Slo.id := ⟨_, rfl⟩
  rw [← hZ] at lf
  replace hZ := Lib.hid hZ
  have lf2 : Z.length ≤ 100000 := by omega
  go_wp2_with (first
    | (go_at_call 55; refine (tickX h1.t h0 (by omega) (by omega)).mono ?_; rw [← hZ.out]; rintro e w2 ⟨lv2, rfl, hl2, hT2, hC2⟩; obtain ⟨A2, c2, rfl, -, -, hs2⟩ := hl2.seen (Nat.le_refl _); have s2 : Stp _ w2 X X := ⟨fun _ q => .inl q, hC2⟩; have hr2 := h1.away s2; clear hC2)
    | (go_at_call 145; refine (refTickS hr2 hM h0 (by omega) hrid).mono ?_; rw [← hZ.out]; rintro e w3 ⟨lv3, Y3, rfl, hl3, h3, s3⟩; obtain ⟨A3, c3, rfl, -, -, hs3⟩ := hl3.seen (Nat.le_refl _); have hs2' := s3.2.seen hs2 (fun b q => ⟨q.2, fun r => by have := q.1; have := hYl b r; have := hB.size; omega⟩); obtain ⟨hT, hS⟩ := h1.step hT2 s2 h3 s3; clear hs2)
    | (go_at_call 133; refine (ints13_any w3 _ _ A2 Z.length c2 Z A3 Z.length c3 Z hs2' hs3 (fun b q => Nat.lt_of_lt_of_le q.2 s3.2.size) (fun b q => q.2) (by omega)).mono ?_; rintro e w4 ⟨rfl, hb4⟩))
  go_ret
  exact ⟨ret_bool (by simp), X, Y3, no + 1, _, _, hT.nx hb4, (StpB.below hB).trans (hS.trans (StpB.below hb4)), by omega, by omega, by omega⟩
set_option maxRecDepth 100000 in
set_option maxHeartbeats 4000000 in
theorem actT_3 (w : World) (X Y : Nat → Prop) (g d : Nat) (mo no co : Int) (M : List Slo) (h : TwoT w X Y g d mo no co M) (hM : M.length ≤ 100000) (h0 : 0 ≤ no) (hno : no ≤ 1000000) (hco : co ≤ 4000) (id n : Int) (r0 : -9223372036854775808 ≤ id) (r1 : id ≤ 9223372036854775807) (m : Nat) (hm : m = n.toNat) (hmm : m ≤ 2000) :
    Calls Try.prog 68 #[.pointer (some ⟨g, 0, none⟩), .pointer (some ⟨d, 0, none⟩), .agg #[.int .i64 3, .int .i64 id, .int .i64 n]] w (ActPost w X Y g d mo no co M) := by
  have hB := (Below.refl w.heap.size w).alloc (Nat.le_refl _) (.cells #[.int .i64 3, .int .i64 id, .int .i64 n] 97)
  have hq := Blk.new w 97 #[.int .i64 3, .int .i64 id, .int .i64 n]
  have h1 := h.nx hB
  have hids := h.t.good.2.2.2.1
  have hmo := h.t.good.1.2
  have hrid := refIds h.t.good.2.2.2.2.2 hmo
  have hXl : ∀ k, X k → k < w.heap.size := h.t.lt
  have hYl : ∀ k, Y k → k < w.heap.size := h.r.lt
  go_enter Try.func68, Try.ntmps68
  go_upto_region 1 with (fail)
  generalize w.alloc (.cells #[.int .i64 3, .int .i64 id, .int .i64 n] 97) = w1 at *
  have a0 : w1.cell? ⟨w.heap.size, 0, none⟩ = some (.int .i64 3) := hq.cellv 0 rfl
  have a1 : w1.cell? ⟨w.heap.size, 1, none⟩ = some (.int .i64 id) := hq.cellv 1 rfl
  have a2 : w1.cell? ⟨w.heap.size, 2, none⟩ = some (.int .i64 n) := hq.cellv 2 rfl
  have ltq := hq.lt
  have ls := skX_len m no M
  obtain ⟨Z, hZ⟩ : ∃ Z, Z = (skX m no M).1 := ⟨_, rfl⟩
  obtain ⟨MM, hMM⟩ : ∃ MM, MM = (skX m no M).2 := ⟨_, rfl⟩
  rw [← hZ, ← hMM] at ls
  replace hZ := Lib.hid hZ
  replace hMM := Lib.hid hMM
  have lf2 : Z.length ≤ 100000 := by omega
  have lm2 : MM.length ≤ M.length + 1 := by omega
  replace ls := True.intro
  have hno' : no + (m : Int) ≤ no + 2000 := by omega
  replace hm := Lib.hid hm
  go_upto_region 9 with (fail)
  have h1 := h1.nx (Below.refl _ _).drew
  -- region 9: 0 1 2 3C 4 5 6 7C 8C 9
  try refine wp_region_noPanic ?_
  have hs7r : (fun w' => ∀ i, w'.cell? ⟨w.heap.size, i, none⟩ = w1.cell? ⟨w.heap.size, i, none⟩) w1.drew := fun _ => rfl
  refine wp_region_held_drew (S := fun w' => ∀ i, w'.cell? ⟨w.heap.size, i, none⟩ = w1.cell? ⟨w.heap.size, i, none⟩) (by kernel_rfl) hs7r (fun _ => ?_)
  (refine held_takeA 0 (by rfl) ?_ (by kernel_rfl) (fun _ _ _ h => h) hs7r ?_ ?_; rotate_left; (focus (intro wq hSw; have hrd := hSw; go_simp; try with_reducible rfl; done)); try simp only [Act.put, List.setIfInBounds_toArray, List.set_cons_zero, List.set_cons_succ])
  (refine held_takeA 1 (by rfl) ?_ (by kernel_rfl) (fun _ _ _ h => h) hs7r ?_ ?_; rotate_left; (focus (intro wq hSw; have hrd := hSw; go_simp; try with_reducible rfl; done)); try simp only [Act.put, List.setIfInBounds_toArray, List.set_cons_zero, List.set_cons_succ])
  (refine held_takeA 2 (by rfl) ?_ (by kernel_rfl) (fun _ _ _ h => h) hs7r ?_ ?_; rotate_left; (focus (intro wq hSw; have hrd := hSw; go_simp; try with_reducible rfl; done)); try simp only [Act.put, List.setIfInBounds_toArray, List.set_cons_zero, List.set_cons_succ])
  (refine held_takeA 4 (by rfl) ?_ (by kernel_rfl) (fun _ _ _ h => h) hs7r ?_ ?_; rotate_left; (focus (intro wq hSw; have hrd := hSw; go_simp; try with_reducible rfl; done)); try simp only [Act.put, List.setIfInBounds_toArray, List.set_cons_zero, List.set_cons_succ])
  (refine held_takeA 5 (by rfl) ?_ (by kernel_rfl) (fun _ _ _ h => h) hs7r ?_ ?_; rotate_left; (focus (intro wq hSw; have hrd := hSw; go_simp; try with_reducible rfl; done)); try simp only [Act.put, List.setIfInBounds_toArray, List.set_cons_zero, List.set_cons_succ])
  (refine held_takeA 6 (by rfl) ?_ (by kernel_rfl) (fun _ _ _ h => h) hs7r ?_ ?_; rotate_left; (focus (intro wq hSw; have hrd := hSw; go_simp; try with_reducible rfl; done)); try simp only [Act.put, List.setIfInBounds_toArray, List.set_cons_zero, List.set_cons_succ])
  refine held_callA 3 (by rfl) (by kernel_rfl) (by rfl) (fun KQ hKQ => ?_)
  go_simp
  refine (skipX w1.drew X g mo no co M h1.t hM h0 (by omega) (by omega) n m hm.out hmm).mono ?_
  rw [← hZ.out, ← hMM.out]
  rintro e w2 ⟨lv2, rfl, hl2, hT2, hC2⟩
  obtain ⟨A2, c2, rfl, -, -, hs2⟩ := hl2.seen (Nat.le_refl _)
  have s2 : Stp w1.drew w2 X X := ⟨fun _ q => .inl q, hC2⟩
  have hr2 := h1.away s2
  have e2 : ∀ i, w2.cell? ⟨w.heap.size, i, none⟩ = w1.cell? ⟨w.heap.size, i, none⟩ := fun i => s2.2.cell (p := ⟨w.heap.size, i, none⟩) ltq (fun q => absurd (hXl _ q) (Nat.lt_irrefl _))
  have hs8r := e2
  refine hKQ.out _ _ hs8r ?_
  clear hKQ KQ
  try simp only [Act.put, List.setIfInBounds_toArray, List.set_cons_zero, List.set_cons_succ]
  refine held_callA 7 (by rfl) (by kernel_rfl) (by rfl) (fun KQ hKQ => ?_)
  go_simp
  refine (refSkipS hr2 hM h0 (by omega) hrid n m hm.out hmm).mono ?_
  rw [← hZ.out, ← hMM.out]
  rintro e w3 ⟨lv3, Y3, rfl, hl3, h3, s3⟩
  obtain ⟨A3, c3, rfl, -, -, hs3⟩ := hl3.seen (Nat.le_refl _)
  have hs2' := s3.2.seen hs2 (fun b q => ⟨q.2, fun r => by have := q.1; have := hYl b r; have := hB.size; have hd : w1.drew.heap.size = w1.heap.size := rfl; omega⟩)
  have e3 : ∀ i, w3.cell? ⟨w.heap.size, i, none⟩ = w1.cell? ⟨w.heap.size, i, none⟩ := fun i => (s3.2.cell (p := ⟨w.heap.size, i, none⟩) (Nat.lt_of_lt_of_le ltq s2.2.size) (fun q => absurd (hYl _ q) (Nat.lt_irrefl _))).trans (e2 i)
  obtain ⟨hT, hS⟩ := h1.step hT2 s2 h3 s3
  have hS := (StpB.below (X := X) (Y := Y) (hB.trans (show Below w.heap.size w1 w1.drew from (Below.refl _ _).drew))).trans hS
  have hs9r := e3
  refine hKQ.out _ _ hs9r ?_
  clear hKQ KQ
  try simp only [Act.put, List.setIfInBounds_toArray, List.set_cons_zero, List.set_cons_succ]
  refine held_callA 8 (by rfl) (by kernel_rfl) (by rfl) (fun KQ hKQ => ?_)
  go_simp
  refine (ints13_any w3 _ _ A2 Z.length c2 Z A3 Z.length c3 Z hs2' hs3 (fun b q => Nat.lt_of_lt_of_le q.2 s3.2.size) (fun b q => q.2) (by omega)).mono ?_
  rintro e w4 ⟨rfl, hb4⟩
  have e4 : ∀ i, w4.cell? ⟨w.heap.size, i, none⟩ = w1.cell? ⟨w.heap.size, i, none⟩ := fun i => (hb4.cell (p := ⟨w.heap.size, i, none⟩) (Nat.lt_of_lt_of_le ltq (Nat.le_trans s2.2.size s3.2.size))).trans (e3 i)
  have hs10r := e4
  refine hKQ.out _ _ hs10r ?_
  clear hKQ KQ
  (refine held_takeA 9 (by rfl) ?_ (by kernel_rfl) (fun _ _ _ h => h) hs10r ?_ ?_; rotate_left; (focus (intro wq hSw; have hrd := hSw; go_simp; try with_reducible rfl; done)); try simp only [Act.put, List.setIfInBounds_toArray, List.set_cons_zero, List.set_cons_succ])
  refine wpAnyH_done (by kernel_rfl) ?_ _
  try refine NoPanic.normal ?_
  go_wp2_with fail
  go_ret
  exact ⟨ret_bool (by simp), X, Y3, no + m, co, MM, hT.nx hb4, hS.trans (StpB.below hb4), by omega, by omega, lm2⟩
set_option maxRecDepth 100000 in
set_option maxHeartbeats 4000000 in
theorem actT_k (w : World) (X Y : Nat → Prop) (g d : Nat) (mo no co : Int) (M : List Slo) (h : TwoT w X Y g d mo no co M) (hM : M.length ≤ 100000) (h0 : 0 ≤ no) (hno : no ≤ 1000000) (hco : co ≤ 4000) (k : Int) (id n : Int) (r0 : -9223372036854775808 ≤ id) (r1 : id ≤ 9223372036854775807) (k0 : k ≠ 0) (k1 : k ≠ 1) (k2 : k ≠ 2) (k3 : k ≠ 3) :
    Calls Try.prog 68 #[.pointer (some ⟨g, 0, none⟩), .pointer (some ⟨d, 0, none⟩), .agg #[.int .i64 k, .int .i64 id, .int .i64 n]] w (ActPost w X Y g d mo no co M) := by
  have hB := (Below.refl w.heap.size w).alloc (Nat.le_refl _) (.cells #[.int .i64 k, .int .i64 id, .int .i64 n] 97)
  have hq := Blk.new w 97 #[.int .i64 k, .int .i64 id, .int .i64 n]
  have h1 := h.nx hB
  have hids := h.t.good.2.2.2.1
  have hmo := h.t.good.1.2
  have hrid := refIds h.t.good.2.2.2.2.2 hmo
  have hXl : ∀ k, X k → k < w.heap.size := h.t.lt
  have hYl : ∀ k, Y k → k < w.heap.size := h.r.lt
  go_enter Try.func68, Try.ntmps68
  go_upto_region 1 with (fail)
  generalize w.alloc (.cells #[.int .i64 k, .int .i64 id, .int .i64 n] 97) = w1 at *
  have a0 : w1.cell? ⟨w.heap.size, 0, none⟩ = some (.int .i64 k) := hq.cellv 0 rfl
  have a1 : w1.cell? ⟨w.heap.size, 1, none⟩ = some (.int .i64 id) := hq.cellv 1 rfl
  have a2 : w1.cell? ⟨w.heap.size, 2, none⟩ = some (.int .i64 n) := hq.cellv 2 rfl
  have ltq := hq.lt
  have d0 : (k == 0) = false := by simpa using k0
  have d1 : (k == 1) = false := by simpa using k1
  have d2 : (k == 2) = false := by simpa using k2
  have d3 : (k == 3) = false := by simpa using k3
  go_wp2_with fail
  go_ret
  exact ⟨rfl, X, Y, no, co, M, h1, StpB.below hB, by omega, by omega, by omega⟩
theorem actT_any (w : World) (X Y : Nat → Prop) (g d : Nat) (mo no co : Int) (M : List Slo) (h : TwoT w X Y g d mo no co M) (hM : M.length ≤ 100000) (h0 : 0 ≤ no) (hno : no ≤ 1000000) (hco : co ≤ 4000) (a : Act3) (ha : a.In) (hs : a.k = 3 → a.n ≤ 2000) :
    Calls Try.prog 68 #[.pointer (some ⟨g, 0, none⟩), .pointer (some ⟨d, 0, none⟩), .agg #[.int .i64 a.k, .int .i64 a.id, .int .i64 a.n]] w (ActPost w X Y g d mo no co M) := by
  obtain ⟨k, id, n⟩ := a
  obtain ⟨-, ⟨r0, r1⟩, -⟩ := ha
  simp only at hs r0 r1 ⊢
  by_cases k0 : k = 0
  · rw [k0]; exact actT_0 w X Y g d mo no co M h hM h0 hno hco id n r0 r1
  by_cases k1 : k = 1
  · rw [k1]; exact actT_1 w X Y g d mo no co M h hM h0 hno hco id n r0 r1
  by_cases k2 : k = 2
  · rw [k2]; exact actT_2 w X Y g d mo no co M h hM h0 hno hco id n r0 r1
  by_cases k3 : k = 3
  · rw [k3]; exact actT_3 w X Y g d mo no co M h hM h0 hno hco id n r0 r1 n.toNat rfl (by have := hs k3; omega)
  exact actT_k w X Y g d mo no co M h hM h0 hno hco k id n r0 r1 k0 k1 k2 k3
end Go.Proofs.Ytejgekoinbdhjaa
