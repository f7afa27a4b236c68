/- timer: Arm at any table, in plain terms. -/
import Derived.Test.YtejgekoinbdhjaaTjS
namespace Go.Proofs.Ytejgekoinbdhjaa
set_option linter.unusedVariables false
open Go Go.RowKit Go.Maps

def armSw (A2 H8 : List Slo) : List Slo := sweepL ((inA A2 H8).length / 2) (inA A2 H8)
set_option maxRecDepth 100000 in
set_option maxHeartbeats 4000000 in
theorem armS_any (w : World) (g b : Nat) (mo no co : Int) (v : Value) (A H : List Slo) (id n : Int) (h : TabV w g b mo no co v A H) (h0 : 0 ≤ id) (h1 : id < mo) (h2 : 1 ≤ n) (hmo : mo ≤ 1024) (hco : 0 ≤ co ∧ co ≤ 1000000) (hokH : ∀ s ∈ H, SloOk s) (hlong : (H.length : Int) ≤ 5000) (hroom : 4 * mo + 64 < (H.length : Int) + 1) (A2 : List Slo) (hput : PutT b id (addT no n) (co + 1) A A2) :
    Calls Try.prog 54 #[.pointer (some ⟨g, 0, none⟩), .int .i64 id, .int .i64 n] w fun e w' => ∃ v', e = .returned (.int .i64 0) ∧ TabV w' g b mo no (co + 1) v' A2 (armSw A2 (upL H.length (H ++ [⟨id, addT no n, co + 1⟩]) H.length)) ∧ Chg w w' (fun k => k = g ∨ k = b ∨ v.ownBlock = some k) ∧ ∀ i, i < w.heap.size → v'.ownBlock = some i → i = g ∨ i = b ∨ v.ownBlock = some i := by
  have c0 : w.cell? ⟨g, 0, none⟩ = some (.int .i64 mo) := h.blk.cellv 0 rfl
  have c2 : w.cell? ⟨g, 2, none⟩ = some (.int .i64 co) := h.blk.cellv 2 rfl
  have f2 := h.blk.frozen 2
  have ltg := h.ltg
  have kw : IntKind.i64.wrap (co + 1) = co + 1 := IntWalk.i64_in _ (by omega)
  have d1 : decide (id < 0) = false := by simp; omega
  have d2 : decide (mo ≤ id) = false := by simp; omega
  have d3 : decide (n < 1) = false := by simp; omega
  obtain ⟨hb1, hg1⟩ := blk_store h.blk 2 (.int .i64 (co + 1))
  replace hb1 := Lib.hid hb1
  replace hg1 := Lib.hid hg1
  go_enter Try.func54, Try.ntmps54
  go_upto_region 7 with (go_at_call 134; refine (madeT_in h).mono ?_; rintro e w' ⟨rfl, rfl⟩)
  go_upto_region 8 with (fail)
  have hT1 : TabV (w.setCell ⟨g, 2, none⟩ (.int .i64 (co + 1))) g b mo no (co + 1) v A H :=
    ⟨hb1.out, h.ent.grown hg1.out (fun e => h.ne (by injection e with e; exact e.symm)), ⟨h.row.1.kept hg1.out (by
      by_cases hv : v.ownBlock = none
      · exact .inl hv
      · exact .inr h.ng), fun _ _ => trivial⟩, h.ng, h.nb⟩
  have hC1 : Chg w (w.setCell ⟨g, 2, none⟩ (.int .i64 (co + 1))) (fun k => k = g ∨ k = b ∨ v.ownBlock = some k) := Chg.of_grown hg1.out (.inl rfl)
  have hz1 : w.heap.size ≤ (w.setCell ⟨g, 2, none⟩ (.int .i64 (co + 1))).heap.size := hg1.out.size
  clear hb1 hg1 c0 c2 f2 ltg h
  generalize w.setCell ⟨g, 2, none⟩ (.int .i64 (co + 1)) = w1 at *
  have c1 : w1.cell? ⟨g, 1, none⟩ = some (.int .i64 no) := hT1.blk.cellv 1 rfl
  have c2 : w1.cell? ⟨g, 2, none⟩ = some (.int .i64 (co + 1)) := hT1.blk.cellv 2 rfl
  have ltg := hT1.ltg
  -- region 8: 0 1 2 3 4 5C 6 7 8 9 10 11M 12M
  try refine wp_region_noPanic ?_
  have hs1r : Below w1.heap.size w1 w1.drew := (Below.refl _ _).drew
  refine wp_region_held_drew (S := fun w' => Below w1.heap.size w1 w') (by kernel_rfl) hs1r (fun _ => ?_)
  (refine held_takeA 0 (by rfl) ?_ (by kernel_rfl) (fun _ _ _ h => h) hs1r ?_ ?_; rotate_left; (focus (intro wq hSw; have hrd : ∀ b o, b < w1.heap.size → wq.cell? ⟨b, o, none⟩ = w1.cell? ⟨b, o, none⟩ := (fun b o h => hSw.cell (p := ⟨b, o, none⟩) h); go_simp; try with_reducible rfl; done)); try simp only [Act.put, List.setIfInBounds_toArray, List.set_cons_zero, List.set_cons_succ])
  (refine held_takeA 1 (by rfl) ?_ (by kernel_rfl) (fun _ _ _ h => h) hs1r ?_ ?_; rotate_left; (focus (intro wq hSw; have hrd : ∀ b o, b < w1.heap.size → wq.cell? ⟨b, o, none⟩ = w1.cell? ⟨b, o, none⟩ := (fun b o h => hSw.cell (p := ⟨b, o, none⟩) h); go_simp; try with_reducible rfl; done)); try simp only [Act.put, List.setIfInBounds_toArray, List.set_cons_zero, List.set_cons_succ])
  (refine held_takeA 2 (by rfl) ?_ (by kernel_rfl) (fun _ _ _ h => h) hs1r ?_ ?_; rotate_left; (focus (intro wq hSw; have hrd : ∀ b o, b < w1.heap.size → wq.cell? ⟨b, o, none⟩ = w1.cell? ⟨b, o, none⟩ := (fun b o h => hSw.cell (p := ⟨b, o, none⟩) h); go_simp; try with_reducible rfl; done)); try simp only [Act.put, List.setIfInBounds_toArray, List.set_cons_zero, List.set_cons_succ])
  (refine held_takeA 3 (by rfl) ?_ (by kernel_rfl) (fun _ _ _ h => h) hs1r ?_ ?_; rotate_left; (focus (intro wq hSw; have hrd : ∀ b o, b < w1.heap.size → wq.cell? ⟨b, o, none⟩ = w1.cell? ⟨b, o, none⟩ := (fun b o h => hSw.cell (p := ⟨b, o, none⟩) h); go_simp; try with_reducible rfl; done)); try simp only [Act.put, List.setIfInBounds_toArray, List.set_cons_zero, List.set_cons_succ])
  (refine held_takeA 4 (by rfl) ?_ (by kernel_rfl) (fun _ _ _ h => h) hs1r ?_ ?_; rotate_left; (focus (intro wq hSw; have hrd : ∀ b o, b < w1.heap.size → wq.cell? ⟨b, o, none⟩ = w1.cell? ⟨b, o, none⟩ := (fun b o h => hSw.cell (p := ⟨b, o, none⟩) h); go_simp; try with_reducible rfl; done)); try simp only [Act.put, List.setIfInBounds_toArray, List.set_cons_zero, List.set_cons_succ])
  (refine held_takeA 6 (by rfl) ?_ (by kernel_rfl) (fun _ _ _ h => h) hs1r ?_ ?_; rotate_left; (focus (intro wq hSw; have hrd : ∀ b o, b < w1.heap.size → wq.cell? ⟨b, o, none⟩ = w1.cell? ⟨b, o, none⟩ := (fun b o h => hSw.cell (p := ⟨b, o, none⟩) h); go_simp; try with_reducible rfl; done)); try simp only [Act.put, List.setIfInBounds_toArray, List.set_cons_zero, List.set_cons_succ])
  (refine held_takeA 7 (by rfl) ?_ (by kernel_rfl) (fun _ _ _ h => h) hs1r ?_ ?_; rotate_left; (focus (intro wq hSw; have hrd : ∀ b o, b < w1.heap.size → wq.cell? ⟨b, o, none⟩ = w1.cell? ⟨b, o, none⟩ := (fun b o h => hSw.cell (p := ⟨b, o, none⟩) h); go_simp; try with_reducible rfl; done)); try simp only [Act.put, List.setIfInBounds_toArray, List.set_cons_zero, List.set_cons_succ])
  (refine held_takeA 8 (by rfl) ?_ (by kernel_rfl) (fun _ _ _ h => h) hs1r ?_ ?_; rotate_left; (focus (intro wq hSw; have hrd : ∀ b o, b < w1.heap.size → wq.cell? ⟨b, o, none⟩ = w1.cell? ⟨b, o, none⟩ := (fun b o h => hSw.cell (p := ⟨b, o, none⟩) h); go_simp; try with_reducible rfl; done)); try simp only [Act.put, List.setIfInBounds_toArray, List.set_cons_zero, List.set_cons_succ])
  (refine held_takeA 9 (by rfl) ?_ (by kernel_rfl) (fun _ _ _ h => h) hs1r ?_ ?_; rotate_left; (focus (intro wq hSw; have hrd : ∀ b o, b < w1.heap.size → wq.cell? ⟨b, o, none⟩ = w1.cell? ⟨b, o, none⟩ := (fun b o h => hSw.cell (p := ⟨b, o, none⟩) h); go_simp; try with_reducible rfl; done)); try simp only [Act.put, List.setIfInBounds_toArray, List.set_cons_zero, List.set_cons_succ])
  refine held_two 5 11 (by rfl) (by rfl) (by kernel_rfl) (by rfl) (by rfl) (fun KQ hKQ => ?_) (fun KQ hKQ => ?_)
  · skip
    go_simp
    refine (addT_any _ _ _).mono ?_
    rintro e w' ⟨rfl, rfl⟩
    have hs2r := (show Below w1.heap.size w1 w1.drew from (Below.refl _ _).drew)
    refine hKQ.out _ _ hs2r ?_
    clear hKQ KQ
    try simp only [Act.put, List.setIfInBounds_toArray, List.set_cons_zero, List.set_cons_succ]
    (refine held_takeA 10 (by rfl) ?_ (by kernel_rfl) (fun _ _ _ h => h) hs2r ?_ ?_; rotate_left; (focus (intro wq hSw; have hrd : ∀ b o, b < w1.heap.size → wq.cell? ⟨b, o, none⟩ = w1.cell? ⟨b, o, none⟩ := (fun b o h => hSw.cell (p := ⟨b, o, none⟩) h); go_simp; try with_reducible rfl; done)); try simp only [Act.put, List.setIfInBounds_toArray, List.set_cons_zero, List.set_cons_succ])
    refine held_callA 11 (by rfl) (by kernel_rfl) (by rfl) (fun KQ hKQ => ?_)
    go_simp
    have hb2 : Below w1.heap.size w1 (w1.drew.alloc (.cells #[.int .i64 0, .int .i64 0] 196)) := (Below.refl w1.heap.size w1).drew.alloc (Nat.le_refl _) (.cells #[.int .i64 0, .int .i64 0] 196)
    have hp : Blk (w1.drew.alloc (.cells #[.int .i64 0, .int .i64 0] 196)) w1.heap.size 196 #[.int .i64 0, .int .i64 0] := Blk.new w1.drew 196 #[.int .i64 0, .int .i64 0]
    have hd : (w1.alloc (.cells #[.int .i64 0, .int .i64 0] 196)).drew = w1.drew.alloc (.cells #[.int .i64 0, .int .i64 0] 196) := rfl
    try rw [hd]
    clear hd
    generalize w1.drew.alloc (.cells #[.int .i64 0, .int .i64 0] 196) = w2 at *
    have hs3r := hb2
    refine hKQ.out _ _ hs3r ?_
    clear hKQ KQ
    try simp only [Act.put, List.setIfInBounds_toArray, List.set_cons_zero, List.set_cons_succ]
    refine held_callA 12 (by rfl) (by kernel_rfl) (by rfl) (fun KQ hKQ => ?_)
    refine wp_store_blk hp 196 (.tmp 7) (.tmp 43) (by rfl) (by rfl) (by rfl) (by rfl) (by exact alarm2) (by simp [Value.oneCell']) ?_
    intro w3 hp3 hg3
    have hb3 := below_own hb2 hg3 hb2.size (Nat.le_refl _)
    have hs4r := hb3
    refine hKQ.out _ _ hs4r ?_
    clear hKQ KQ
    try simp only [Act.put]
    refine wpAnyH_done (by kernel_rfl) ?_ _
    try refine NoPanic.normal ?_
    have hT3 := hT1.nx hb3
    have hC3 : Chg w w3 (fun k => k = g ∨ k = b ∨ v.ownBlock = some k) := hC1.trans (Chg.of_below (X := fun _ => False) hb3) (fun _ _ h => h.elim)
    have hgb : g ≠ b := hT3.ne
    have ltb1 := hT1.ltb
    have hxb : w1.heap.size ≠ b := by omega
    have hxg : w1.heap.size ≠ g := by omega
    have c3 : w3.cell? ⟨g, 3, none⟩ = some (.map (some b)) := hT3.blk.cellv 3 rfl
    have ltg3 := hT3.ltg
    have ltb3 := hT3.ltb
    clear hp hb2 hg3 c1 c2 ltg
    go_upto_region 9 with (fail)
    -- region 9: 0 1 2 3 4 5 6M
    try refine wp_region_noPanic ?_
    have hs5r : w3.grownBy w3.drew (some b) := grown_drew (grown_refl _ _)
    refine wp_region_held_drew (S := fun w' => w3.grownBy w' (some b)) (by kernel_rfl) hs5r (fun _ => ?_)
    (refine held_takeA 0 (by rfl) ?_ (by kernel_rfl) (fun _ _ _ h => h) hs5r ?_ ?_; rotate_left; (focus (intro wq hSw; have hrd : ∀ b' o, b' < w3.heap.size → b' ≠ b → wq.cell? ⟨b', o, none⟩ = w3.cell? ⟨b', o, none⟩ := (fun b' o h hne => grown_cell hSw h hne); go_simp; try with_reducible rfl; done)); try simp only [Act.put, List.setIfInBounds_toArray, List.set_cons_zero, List.set_cons_succ])
    (refine held_takeA 1 (by rfl) ?_ (by kernel_rfl) (fun _ _ _ h => h) hs5r ?_ ?_; rotate_left; (focus (intro wq hSw; have hrd : ∀ b' o, b' < w3.heap.size → b' ≠ b → wq.cell? ⟨b', o, none⟩ = w3.cell? ⟨b', o, none⟩ := (fun b' o h hne => grown_cell hSw h hne); go_simp; try with_reducible rfl; done)); try simp only [Act.put, List.setIfInBounds_toArray, List.set_cons_zero, List.set_cons_succ])
    (refine held_takeA 2 (by rfl) ?_ (by kernel_rfl) (fun _ _ _ h => h) hs5r ?_ ?_; rotate_left; (focus (intro wq hSw; have hrd : ∀ b' o, b' < w3.heap.size → b' ≠ b → wq.cell? ⟨b', o, none⟩ = w3.cell? ⟨b', o, none⟩ := (fun b' o h hne => grown_cell hSw h hne); go_simp; try with_reducible rfl; done)); try simp only [Act.put, List.setIfInBounds_toArray, List.set_cons_zero, List.set_cons_succ])
    (refine held_takeA 3 (by rfl) ?_ (by kernel_rfl) (fun _ _ _ h => h) hs5r ?_ ?_; rotate_left; (focus (intro wq hSw; have hrd : ∀ b' o, b' < w3.heap.size → b' ≠ b → wq.cell? ⟨b', o, none⟩ = w3.cell? ⟨b', o, none⟩ := (fun b' o h hne => grown_cell hSw h hne); go_simp; try with_reducible rfl; done)); try simp only [Act.put, List.setIfInBounds_toArray, List.set_cons_zero, List.set_cons_succ])
    (refine held_takeA 4 (by rfl) ?_ (by kernel_rfl) (fun _ _ _ h => h) hs5r ?_ ?_; rotate_left; (focus (intro wq hSw; have hrd : ∀ b' o, b' < w3.heap.size → b' ≠ b → wq.cell? ⟨b', o, none⟩ = w3.cell? ⟨b', o, none⟩ := (fun b' o h hne => grown_cell hSw h hne); go_simp; try with_reducible rfl; done)); try simp only [Act.put, List.setIfInBounds_toArray, List.set_cons_zero, List.set_cons_succ])
    (refine held_takeA 5 (by rfl) ?_ (by kernel_rfl) (fun _ _ _ h => h) hs5r ?_ ?_; rotate_left; (focus (intro wq hSw; refine exec_load_blk (x := .tmp 7) ?_ ?_ (hp3.grown hSw (by simp; omega)) _ Try.underlying196 rfl (by kernel_rfl) <;> rfl)); simp only [Act.put, List.setIfInBounds_toArray, List.set_cons_zero, List.set_cons_succ])
    refine held_callA 6 (by rfl) (by kernel_rfl) (by rfl) (fun KQ hKQ => ?_)
    refine wp_put_run hput hT3.ent.drew (.tmp 47) (.tmp 48) (.tmp 49) (by rfl) (by rfl) (by rfl) (by rfl) ?_
    intro w4 he4 hg4
    refine hKQ.out _ _ (grown_trans hs5r hg4) (held_mono (S' := fun w' => w4.grownBy w' (some b)) (fun w' h => grown_trans (grown_trans hs5r hg4) h) _ _ _ _ ?_)
    clear hKQ KQ
    replace hp3 := hp3.grown (grown_trans hs5r hg4) (by simp; omega)
    have hs6r : w4.grownBy w4 (some b) := grown_refl _ _
    try simp only [Act.put]
    refine wpAnyH_done (by kernel_rfl) ?_ _
    try refine NoPanic.normal ?_
    have hg5 : w3.grownBy w4 (some b) := grown_trans (grown_drew (grown_refl w3 (some b))) hg4
    have hT4 : TabV w4 g b mo no (co + 1) v A2 H := ⟨hT3.blk.grown hg5 (by simp; omega), he4, ⟨hT3.row.1.kept hg5 (.inr hT3.nb), fun _ _ => trivial⟩, hT3.ng, hT3.nb⟩
    have hp4 := hp3
    have hC4 : Chg w w4 (fun k => k = g ∨ k = b ∨ v.ownBlock = some k) := hC3.trans (Chg.of_grown (X := fun k => k = b) hg5 rfl) (fun _ _ h => .inr (.inl h))
    have hlen4 : H.length ≤ 5000 := by omega
    have c4 : w4.cell? ⟨g, 4, none⟩ = some v := hT4.blk.cellv 4 rfl
    have ltg4 := hT4.ltg
    have hng := hT4.ng
    have ltx4 := hp4.lt
    have hvx : v.ownBlock ≠ some w1.heap.size := fun e => by have := (hT1.row.1.lt _ e).2; omega
    clear hp3 c3 ltg3 ltb3 he4 hg4 hb3
    go_upto_region 10 with (fail)
    -- region 10: 0 1 2 3 4 5 6 7 8M 9M 10 11 12M
    try refine wp_region_noPanic ?_
    have hs7r : (fun w' => w4.grownBy w' v.ownBlock) w4.drew := grown_drew (grown_refl _ _)
    refine wp_region_E 12 (S := fun w' => w4.grownBy w' v.ownBlock) (by kernel_rfl) hs7r (fun _ => ?_)
    (refine e_takeA 0 (by rfl) ?_ (by kernel_rfl) (fun _ _ _ h => h) hs7r ?_ ?_; rotate_left; (focus (intro wq hSw; have hrd := hSw; have hrd2 : ∀ b' o, b' < w4.heap.size → v.ownBlock ≠ some b' → wq.cell? ⟨b', o, none⟩ = w4.cell? ⟨b', o, none⟩ := (fun b' o h hne => grown_cellO hSw h hne); go_simp; try with_reducible rfl; done)); try simp only [Act.put, List.setIfInBounds_toArray, List.set_cons_zero, List.set_cons_succ])
    (refine e_takeA 1 (by rfl) ?_ (by kernel_rfl) (fun _ _ _ h => h) hs7r ?_ ?_; rotate_left; (focus (intro wq hSw; have hrd := hSw; have hrd2 : ∀ b' o, b' < w4.heap.size → v.ownBlock ≠ some b' → wq.cell? ⟨b', o, none⟩ = w4.cell? ⟨b', o, none⟩ := (fun b' o h hne => grown_cellO hSw h hne); go_simp; try with_reducible rfl; done)); try simp only [Act.put, List.setIfInBounds_toArray, List.set_cons_zero, List.set_cons_succ])
    (refine e_takeA 2 (by rfl) ?_ (by kernel_rfl) (fun _ _ _ h => h) hs7r ?_ ?_; rotate_left; (focus (intro wq hSw; have hrd := hSw; have hrd2 : ∀ b' o, b' < w4.heap.size → v.ownBlock ≠ some b' → wq.cell? ⟨b', o, none⟩ = w4.cell? ⟨b', o, none⟩ := (fun b' o h hne => grown_cellO hSw h hne); go_simp; try with_reducible rfl; done)); try simp only [Act.put, List.setIfInBounds_toArray, List.set_cons_zero, List.set_cons_succ])
    (refine e_takeA 3 (by rfl) ?_ (by kernel_rfl) (fun _ _ _ h => h) hs7r ?_ ?_; rotate_left; (focus (intro wq hSw; have hrd := hSw; have hrd2 : ∀ b' o, b' < w4.heap.size → v.ownBlock ≠ some b' → wq.cell? ⟨b', o, none⟩ = w4.cell? ⟨b', o, none⟩ := (fun b' o h hne => grown_cellO hSw h hne); go_simp; try with_reducible rfl; done)); try simp only [Act.put, List.setIfInBounds_toArray, List.set_cons_zero, List.set_cons_succ])
    (refine e_takeA 4 (by rfl) ?_ (by kernel_rfl) (fun _ _ _ h => h) hs7r ?_ ?_; rotate_left; (focus (intro wq hSw; have hrd := hSw; have hrd2 : ∀ b' o, b' < w4.heap.size → v.ownBlock ≠ some b' → wq.cell? ⟨b', o, none⟩ = w4.cell? ⟨b', o, none⟩ := (fun b' o h hne => grown_cellO hSw h hne); go_simp; try with_reducible rfl; done)); try simp only [Act.put, List.setIfInBounds_toArray, List.set_cons_zero, List.set_cons_succ])
    (refine e_takeA 5 (by rfl) ?_ (by kernel_rfl) (fun _ _ _ h => h) hs7r ?_ ?_; rotate_left; (focus (intro wq hSw; have hrd := hSw; have hrd2 : ∀ b' o, b' < w4.heap.size → v.ownBlock ≠ some b' → wq.cell? ⟨b', o, none⟩ = w4.cell? ⟨b', o, none⟩ := (fun b' o h hne => grown_cellO hSw h hne); go_simp; try with_reducible rfl; done)); try simp only [Act.put, List.setIfInBounds_toArray, List.set_cons_zero, List.set_cons_succ])
    (refine e_takeA 6 (by rfl) ?_ (by kernel_rfl) (fun _ _ _ h => h) hs7r ?_ ?_; rotate_left; (focus (intro wq hSw; refine exec_load_blk (x := .tmp 7) ?_ ?_ (hp4.grown hSw (fun e => hvx e.symm)) _ Try.underlying196 rfl (by kernel_rfl) <;> rfl)); simp only [Act.put, List.setIfInBounds_toArray, List.set_cons_zero, List.set_cons_succ])
    (refine e_takeA 7 (by rfl) ?_ (by kernel_rfl) (fun _ _ _ h => h) hs7r ?_ ?_; rotate_left; (focus (intro wq hSw; have hrd := hSw; have hrd2 : ∀ b' o, b' < w4.heap.size → v.ownBlock ≠ some b' → wq.cell? ⟨b', o, none⟩ = w4.cell? ⟨b', o, none⟩ := (fun b' o h hne => grown_cellO hSw h hne); go_simp; try with_reducible rfl; done)); try simp only [Act.put, List.setIfInBounds_toArray, List.set_cons_zero, List.set_cons_succ])
    refine e_callA 8 (by rfl) (by kernel_rfl) (by rfl) (fun KQ hKQ => ?_)
    go_simp
    have hb5 : Below w4.heap.size w4 (w4.drew.alloc (.cells #[.int .i64 id, .int .i64 (addT no n), .int .i64 (co + 1)] 198)) := (Below.refl w4.heap.size w4).drew.alloc (Nat.le_refl _) (.cells #[.int .i64 id, .int .i64 (addT no n), .int .i64 (co + 1)] 198)
    have hseen : Seen sloK (w4.drew.alloc (.cells #[.int .i64 id, .int .i64 (addT no n), .int .i64 (co + 1)] 198)) (fun _ => True) (some ⟨w4.heap.size, 0, none⟩) 1 [(⟨id, addT no n, co + 1⟩ : Slo)] := seen_one (R := sloK) (S := fun _ => False) (S' := fun _ => True) w4.drew 198 (⟨id, addT no n, co + 1⟩ : Slo) #[.int .i64 id, .int .i64 (addT no n), .int .i64 (co + 1)] rfl trivial (fun _ h => h.elim) trivial (fun _ h => h.elim)
    have hT5 := hT4.nx hb5
    have hd : (w4.alloc (.cells #[.int .i64 id, .int .i64 (addT no n), .int .i64 (co + 1)] 198)).drew = w4.drew.alloc (.cells #[.int .i64 id, .int .i64 (addT no n), .int .i64 (co + 1)] 198) := rfl
    try rw [hd]
    clear hd
    generalize w4.drew.alloc (.cells #[.int .i64 id, .int .i64 (addT no n), .int .i64 (co + 1)] 198) = w5 at *
    have hg5' := grown_of_below hb5 (Nat.le_refl _) v.ownBlock
    have hs8r := hg5'
    refine hKQ.out _ _ hs8r ?_
    clear hKQ KQ
    try simp only [Act.put, List.setIfInBounds_toArray, List.set_cons_zero, List.set_cons_succ]
    refine e_callA 9 (by rfl) (by kernel_rfl) (by rfl) (fun KQ hKQ => ?_)
    refine wp_rowsO slo_ok (.tmp 54) (.tmp 58) (by rfl) hT5.row (by rfl) (by rfl) hseen (fun _ _ => trivial) (by unfold maxLen; omega) (by omega) (Nat.zero_le _) ?_
    intro v6 w6 hR6 hg6 ho6
    have hz5 : w.heap.size ≤ w5.heap.size := Nat.le_trans hC4.size hb5.size
    obtain ⟨L, hL⟩ : ∃ L, L = (H ++ [(⟨id, addT no n, co + 1⟩ : Slo)]).length := ⟨_, rfl⟩
    have hL1 : Hid (L = H.length + 1) := Lib.hid (by rw [hL]; simp)
    obtain ⟨A7, c7, e7, -⟩ := hR6.1.any
    rw [← hL] at e7
    subst e7
    replace hL := Lib.hid hL
    have hg46 := grown_trans hg5' hg6
    have hs9r := hg46
    refine hKQ.out _ _ hs9r ?_
    clear hKQ KQ
    try simp only [Act.put, List.setIfInBounds_toArray, List.set_cons_zero, List.set_cons_succ]
    (refine e_takeA 10 (by rfl) ?_ (by kernel_rfl) (fun _ _ _ h => h) hs9r ?_ ?_; rotate_left; (focus (intro wq hSw; have hrd := hSw; have hrd2 : ∀ b' o, b' < w4.heap.size → v.ownBlock ≠ some b' → wq.cell? ⟨b', o, none⟩ = w4.cell? ⟨b', o, none⟩ := (fun b' o h hne => grown_cellO hSw h hne); go_simp; try with_reducible rfl; done)); try simp only [Act.put, List.setIfInBounds_toArray, List.set_cons_zero, List.set_cons_succ])
    (refine e_takeA 11 (by rfl) ?_ (by kernel_rfl) (fun _ _ _ h => h) hs9r ?_ ?_; rotate_left; (focus (intro wq hSw; have hrd := hSw; have hrd2 : ∀ b' o, b' < w4.heap.size → v.ownBlock ≠ some b' → wq.cell? ⟨b', o, none⟩ = w4.cell? ⟨b', o, none⟩ := (fun b' o h hne => grown_cellO hSw h hne); go_simp; try with_reducible rfl; done)); try simp only [Act.put, List.setIfInBounds_toArray, List.set_cons_zero, List.set_cons_succ])
    have hq6 := hT4.blk.grown hg46 (fun e => hng e.symm)
    have hm6 := hT4.ent.grown hg46 (fun e => hT4.nb e.symm)
    have hC6 : Chg w w6 (fun k => k = g ∨ k = b ∨ v.ownBlock = some k) := hC4.trans (Chg.of_grownO (X := fun k => v.ownBlock = some k) hg46 (fun _ e => e)) (fun _ _ h => .inr (.inr h))
    have hX7 : ∀ i, i < w.heap.size → (Value.slice A7 L c7).ownBlock = some i → i = g ∨ i = b ∨ v.ownBlock = some i := fun i hi e => by
      rcases ho6 with q | q
      · exact .inr (.inr (q ▸ e))
      · rw [q] at e; injection e with e; omega
    have n1 := own_ne_blk hR6.1 hq6 (by decide)
    have n2 := own_ne_ent hR6.1 hm6
    have f4 := hq6.frozen 4
    have ltg6 := hq6.lt
    have c46 : w6.cell? ⟨g, 4, none⟩ = some v := hq6.cellv 4 rfl
    refine e_last (by rfl) (by kernel_rfl) (by rfl) (fun KQ hKQ => ?_)
    go_simp
    obtain ⟨hq7, hg7⟩ := blk_store hq6 4 (.slice A7 L c7)
    have hT7 : TabV (w6.setCell ⟨g, 4, none⟩ (.slice A7 L c7)) g b mo no (co + 1) (.slice A7 L c7) A2 (H ++ [⟨id, addT no n, co + 1⟩]) := ⟨hq7, hm6.grown hg7 (fun e => hgb (by injection e with e; exact e.symm)), ⟨hR6.1.kept hg7 (.inr n1), fun _ _ => trivial⟩, n1, n2⟩
    have hC7 : Chg w (w6.setCell ⟨g, 4, none⟩ (.slice A7 L c7)) (fun k => k = g ∨ k = b ∨ v.ownBlock = some k) := hC6.trans (Chg.of_grown (X := fun k => k = g) hg7 rfl) (fun _ _ h => .inl h)
    generalize w6.setCell ⟨g, 4, none⟩ (.slice A7 L c7) = w7 at *
    refine hKQ.out _ _ ?_
    clear hKQ KQ
    try simp only [Act.put]
    refine e_done (by kernel_rfl) ?_ _
    try refine NoPanic.normal ?_
    clear hq7 hg7 hC6 hm6 hq6 hg46 hR6 n1 n2 f4 ltg6 c46 hT5 hg5' hseen hb5 hvx ltx4 hng ltg4 c4 hC4 hp4 hT4 hg5 hC3 hT3 hg6 ho6
    have e1 : (L : Int) - 1 = (H.length : Int) := by have := hL1.out; omega
    have kwL : IntKind.i64.wrap (H.length : Int) = (H.length : Int) := IntWalk.i64_in _ (by omega)
    have kw4 : IntKind.i64.wrap (4 * mo) = 4 * mo := IntWalk.i64_in _ (by omega)
    have kw5 : IntKind.i64.wrap (4 * mo + 64) = 4 * mo + 64 := IntWalk.i64_in _ (by omega)
    have d9 : decide (4 * mo + 64 < (L : Int)) = true := by have := hL1.out; simp; omega
    have c4 : w7.cell? ⟨g, 4, none⟩ = some (.slice A7 L c7) := hT7.blk.cellv 4 rfl
    have ltg := hT7.ltg
    have hup := fun w => up_any w g b mo no (co + 1) (.slice A7 L c7) A2 (H ++ [(⟨id, addT no n, co + 1⟩ : Slo)])
    have hi9 : H.length < (H ++ [(⟨id, addT no n, co + 1⟩ : Slo)]).length := by rw [← hL.out]; omega
    have hn9 : (H ++ [(⟨id, addT no n, co + 1⟩ : Slo)]).length ≤ 1000000 := by rw [← hL.out]; omega
    replace hi9 := Lib.hid hi9
    replace hn9 := Lib.hid hn9
    go_upto_region 12 with (go_at_call 135; refine (hup w7 hT7 H.length hi9.out hn9.out).mono ?_; rintro e w8 ⟨rfl, hT8, hg8⟩)
    have c0 : w8.cell? ⟨g, 0, none⟩ = some (.int .i64 mo) := hT8.blk.cellv 0 rfl
    have c48 : w8.cell? ⟨g, 4, none⟩ = some (.slice A7 L c7) := hT8.blk.cellv 4 rfl
    have ltg8 := hT8.ltg
    have hC8 := hC7.trans (Chg.of_grownO (X := fun k => (Value.slice A7 L c7).ownBlock = some k) hg8 (fun _ e => e)) (fun i hi e => hX7 i hi e)
    go_region
    obtain ⟨r7, hr7⟩ : ∃ r7, A7 = some ⟨r7, 0, none⟩ := by
      rcases hT8.row.1.2 with ⟨h1, h2⟩ | ⟨r, cap, cur, e, _⟩
      · exfalso; injection h1 with _ q _; have := hL1.out; omega
      · injection e with q _ _; exact ⟨r, q⟩
    subst hr7
    have hok8 : ∀ s ∈ upL H.length (H ++ [(⟨id, addT no n, co + 1⟩ : Slo)]) H.length, SloOk s := fun s hs => by
      rw [up_mem] at hs
      rcases List.mem_append.1 hs with hs | hs
      · exact hokH s hs
      · rw [List.mem_singleton] at hs
        subst hs
        exact ⟨h0, by show id ≤ 100000; omega, by show co + 1 ≠ 0; omega⟩
    have hT8d := hT8.nx (Below.refl _ _).drew
    have hL9 : L ≤ 1000000 := by have := hL1.out; omega
    go_wp2_with (go_at_call 136; refine (sweep_any _ g b r7 c7 L mo no (co + 1) A2 _ hT8d hok8 hL9).mono ?_; rintro e w10 ⟨rfl, m10, hT10, hC10⟩)
    go_ret
    exact ⟨_, rfl, hT10, (hC8.trans (Chg.of_below (X := fun _ => False) (Below.refl _ _).drew) (fun _ _ h => h.elim)).trans hC10 (fun i hi e => e.elim .inl fun e => hX7 i hi (by rw [e]; rfl)), fun i hi e => hX7 i hi e⟩
  · skip
    go_simp
    have hb2 : Below w1.heap.size w1 (w1.drew.alloc (.cells #[.int .i64 0, .int .i64 0] 196)) := (Below.refl w1.heap.size w1).drew.alloc (Nat.le_refl _) (.cells #[.int .i64 0, .int .i64 0] 196)
    have hp : Blk (w1.drew.alloc (.cells #[.int .i64 0, .int .i64 0] 196)) w1.heap.size 196 #[.int .i64 0, .int .i64 0] := Blk.new w1.drew 196 #[.int .i64 0, .int .i64 0]
    have hd : (w1.alloc (.cells #[.int .i64 0, .int .i64 0] 196)).drew = w1.drew.alloc (.cells #[.int .i64 0, .int .i64 0] 196) := rfl
    try rw [hd]
    clear hd
    generalize w1.drew.alloc (.cells #[.int .i64 0, .int .i64 0] 196) = w2 at *
    have hs10r := hb2
    refine hKQ.out _ _ hs10r ?_
    clear hKQ KQ
    try simp only [Act.put, List.setIfInBounds_toArray, List.set_cons_zero, List.set_cons_succ]
    refine held_callA 5 (by rfl) (by kernel_rfl) (by rfl) (fun KQ hKQ => ?_)
    go_simp
    refine (addT_any _ _ _).mono ?_
    rintro e w' ⟨rfl, rfl⟩
    have hs11r := hb2
    refine hKQ.out _ _ hs11r ?_
    clear hKQ KQ
    try simp only [Act.put, List.setIfInBounds_toArray, List.set_cons_zero, List.set_cons_succ]
    (refine held_takeA 10 (by rfl) ?_ (by kernel_rfl) (fun _ _ _ h => h) hs11r ?_ ?_; rotate_left; (focus (intro wq hSw; have hrd : ∀ b o, b < w1.heap.size → wq.cell? ⟨b, o, none⟩ = w1.cell? ⟨b, o, none⟩ := (fun b o h => hSw.cell (p := ⟨b, o, none⟩) h); go_simp; try with_reducible rfl; done)); try simp only [Act.put, List.setIfInBounds_toArray, List.set_cons_zero, List.set_cons_succ])
    refine held_callA 12 (by rfl) (by kernel_rfl) (by rfl) (fun KQ hKQ => ?_)
    refine wp_store_blk hp 196 (.tmp 7) (.tmp 43) (by rfl) (by rfl) (by rfl) (by rfl) (by exact alarm2) (by simp [Value.oneCell']) ?_
    intro w3 hp3 hg3
    have hb3 := below_own hb2 hg3 hb2.size (Nat.le_refl _)
    have hs12r := hb3
    refine hKQ.out _ _ hs12r ?_
    clear hKQ KQ
    try simp only [Act.put]
    refine wpAnyH_done (by kernel_rfl) ?_ _
    try refine NoPanic.normal ?_
    have hT3 := hT1.nx hb3
    have hC3 : Chg w w3 (fun k => k = g ∨ k = b ∨ v.ownBlock = some k) := hC1.trans (Chg.of_below (X := fun _ => False) hb3) (fun _ _ h => h.elim)
    have hgb : g ≠ b := hT3.ne
    have ltb1 := hT1.ltb
    have hxb : w1.heap.size ≠ b := by omega
    have hxg : w1.heap.size ≠ g := by omega
    have c3 : w3.cell? ⟨g, 3, none⟩ = some (.map (some b)) := hT3.blk.cellv 3 rfl
    have ltg3 := hT3.ltg
    have ltb3 := hT3.ltb
    clear hp hb2 hg3 c1 c2 ltg
    go_upto_region 9 with (fail)
    -- region 9: 0 1 2 3 4 5 6M
    try refine wp_region_noPanic ?_
    have hs13r : w3.grownBy w3.drew (some b) := grown_drew (grown_refl _ _)
    refine wp_region_held_drew (S := fun w' => w3.grownBy w' (some b)) (by kernel_rfl) hs13r (fun _ => ?_)
    (refine held_takeA 0 (by rfl) ?_ (by kernel_rfl) (fun _ _ _ h => h) hs13r ?_ ?_; rotate_left; (focus (intro wq hSw; have hrd : ∀ b' o, b' < w3.heap.size → b' ≠ b → wq.cell? ⟨b', o, none⟩ = w3.cell? ⟨b', o, none⟩ := (fun b' o h hne => grown_cell hSw h hne); go_simp; try with_reducible rfl; done)); try simp only [Act.put, List.setIfInBounds_toArray, List.set_cons_zero, List.set_cons_succ])
    (refine held_takeA 1 (by rfl) ?_ (by kernel_rfl) (fun _ _ _ h => h) hs13r ?_ ?_; rotate_left; (focus (intro wq hSw; have hrd : ∀ b' o, b' < w3.heap.size → b' ≠ b → wq.cell? ⟨b', o, none⟩ = w3.cell? ⟨b', o, none⟩ := (fun b' o h hne => grown_cell hSw h hne); go_simp; try with_reducible rfl; done)); try simp only [Act.put, List.setIfInBounds_toArray, List.set_cons_zero, List.set_cons_succ])
    (refine held_takeA 2 (by rfl) ?_ (by kernel_rfl) (fun _ _ _ h => h) hs13r ?_ ?_; rotate_left; (focus (intro wq hSw; have hrd : ∀ b' o, b' < w3.heap.size → b' ≠ b → wq.cell? ⟨b', o, none⟩ = w3.cell? ⟨b', o, none⟩ := (fun b' o h hne => grown_cell hSw h hne); go_simp; try with_reducible rfl; done)); try simp only [Act.put, List.setIfInBounds_toArray, List.set_cons_zero, List.set_cons_succ])
    (refine held_takeA 3 (by rfl) ?_ (by kernel_rfl) (fun _ _ _ h => h) hs13r ?_ ?_; rotate_left; (focus (intro wq hSw; have hrd : ∀ b' o, b' < w3.heap.size → b' ≠ b → wq.cell? ⟨b', o, none⟩ = w3.cell? ⟨b', o, none⟩ := (fun b' o h hne => grown_cell hSw h hne); go_simp; try with_reducible rfl; done)); try simp only [Act.put, List.setIfInBounds_toArray, List.set_cons_zero, List.set_cons_succ])
    (refine held_takeA 4 (by rfl) ?_ (by kernel_rfl) (fun _ _ _ h => h) hs13r ?_ ?_; rotate_left; (focus (intro wq hSw; have hrd : ∀ b' o, b' < w3.heap.size → b' ≠ b → wq.cell? ⟨b', o, none⟩ = w3.cell? ⟨b', o, none⟩ := (fun b' o h hne => grown_cell hSw h hne); go_simp; try with_reducible rfl; done)); try simp only [Act.put, List.setIfInBounds_toArray, List.set_cons_zero, List.set_cons_succ])
    (refine held_takeA 5 (by rfl) ?_ (by kernel_rfl) (fun _ _ _ h => h) hs13r ?_ ?_; rotate_left; (focus (intro wq hSw; refine exec_load_blk (x := .tmp 7) ?_ ?_ (hp3.grown hSw (by simp; omega)) _ Try.underlying196 rfl (by kernel_rfl) <;> rfl)); simp only [Act.put, List.setIfInBounds_toArray, List.set_cons_zero, List.set_cons_succ])
    refine held_callA 6 (by rfl) (by kernel_rfl) (by rfl) (fun KQ hKQ => ?_)
    refine wp_put_run hput hT3.ent.drew (.tmp 47) (.tmp 48) (.tmp 49) (by rfl) (by rfl) (by rfl) (by rfl) ?_
    intro w4 he4 hg4
    refine hKQ.out _ _ (grown_trans hs13r hg4) (held_mono (S' := fun w' => w4.grownBy w' (some b)) (fun w' h => grown_trans (grown_trans hs13r hg4) h) _ _ _ _ ?_)
    clear hKQ KQ
    replace hp3 := hp3.grown (grown_trans hs13r hg4) (by simp; omega)
    have hs14r : w4.grownBy w4 (some b) := grown_refl _ _
    try simp only [Act.put]
    refine wpAnyH_done (by kernel_rfl) ?_ _
    try refine NoPanic.normal ?_
    have hg5 : w3.grownBy w4 (some b) := grown_trans (grown_drew (grown_refl w3 (some b))) hg4
    have hT4 : TabV w4 g b mo no (co + 1) v A2 H := ⟨hT3.blk.grown hg5 (by simp; omega), he4, ⟨hT3.row.1.kept hg5 (.inr hT3.nb), fun _ _ => trivial⟩, hT3.ng, hT3.nb⟩
    have hp4 := hp3
    have hC4 : Chg w w4 (fun k => k = g ∨ k = b ∨ v.ownBlock = some k) := hC3.trans (Chg.of_grown (X := fun k => k = b) hg5 rfl) (fun _ _ h => .inr (.inl h))
    have hlen4 : H.length ≤ 5000 := by omega
    have c4 : w4.cell? ⟨g, 4, none⟩ = some v := hT4.blk.cellv 4 rfl
    have ltg4 := hT4.ltg
    have hng := hT4.ng
    have ltx4 := hp4.lt
    have hvx : v.ownBlock ≠ some w1.heap.size := fun e => by have := (hT1.row.1.lt _ e).2; omega
    clear hp3 c3 ltg3 ltb3 he4 hg4 hb3
    go_upto_region 10 with (fail)
    -- region 10: 0 1 2 3 4 5 6 7 8M 9M 10 11 12M
    try refine wp_region_noPanic ?_
    have hs15r : (fun w' => w4.grownBy w' v.ownBlock) w4.drew := grown_drew (grown_refl _ _)
    refine wp_region_E 12 (S := fun w' => w4.grownBy w' v.ownBlock) (by kernel_rfl) hs15r (fun _ => ?_)
    (refine e_takeA 0 (by rfl) ?_ (by kernel_rfl) (fun _ _ _ h => h) hs15r ?_ ?_; rotate_left; (focus (intro wq hSw; have hrd := hSw; have hrd2 : ∀ b' o, b' < w4.heap.size → v.ownBlock ≠ some b' → wq.cell? ⟨b', o, none⟩ = w4.cell? ⟨b', o, none⟩ := (fun b' o h hne => grown_cellO hSw h hne); go_simp; try with_reducible rfl; done)); try simp only [Act.put, List.setIfInBounds_toArray, List.set_cons_zero, List.set_cons_succ])
    (refine e_takeA 1 (by rfl) ?_ (by kernel_rfl) (fun _ _ _ h => h) hs15r ?_ ?_; rotate_left; (focus (intro wq hSw; have hrd := hSw; have hrd2 : ∀ b' o, b' < w4.heap.size → v.ownBlock ≠ some b' → wq.cell? ⟨b', o, none⟩ = w4.cell? ⟨b', o, none⟩ := (fun b' o h hne => grown_cellO hSw h hne); go_simp; try with_reducible rfl; done)); try simp only [Act.put, List.setIfInBounds_toArray, List.set_cons_zero, List.set_cons_succ])
    (refine e_takeA 2 (by rfl) ?_ (by kernel_rfl) (fun _ _ _ h => h) hs15r ?_ ?_; rotate_left; (focus (intro wq hSw; have hrd := hSw; have hrd2 : ∀ b' o, b' < w4.heap.size → v.ownBlock ≠ some b' → wq.cell? ⟨b', o, none⟩ = w4.cell? ⟨b', o, none⟩ := (fun b' o h hne => grown_cellO hSw h hne); go_simp; try with_reducible rfl; done)); try simp only [Act.put, List.setIfInBounds_toArray, List.set_cons_zero, List.set_cons_succ])
    (refine e_takeA 3 (by rfl) ?_ (by kernel_rfl) (fun _ _ _ h => h) hs15r ?_ ?_; rotate_left; (focus (intro wq hSw; have hrd := hSw; have hrd2 : ∀ b' o, b' < w4.heap.size → v.ownBlock ≠ some b' → wq.cell? ⟨b', o, none⟩ = w4.cell? ⟨b', o, none⟩ := (fun b' o h hne => grown_cellO hSw h hne); go_simp; try with_reducible rfl; done)); try simp only [Act.put, List.setIfInBounds_toArray, List.set_cons_zero, List.set_cons_succ])
    (refine e_takeA 4 (by rfl) ?_ (by kernel_rfl) (fun _ _ _ h => h) hs15r ?_ ?_; rotate_left; (focus (intro wq hSw; have hrd := hSw; have hrd2 : ∀ b' o, b' < w4.heap.size → v.ownBlock ≠ some b' → wq.cell? ⟨b', o, none⟩ = w4.cell? ⟨b', o, none⟩ := (fun b' o h hne => grown_cellO hSw h hne); go_simp; try with_reducible rfl; done)); try simp only [Act.put, List.setIfInBounds_toArray, List.set_cons_zero, List.set_cons_succ])
    (refine e_takeA 5 (by rfl) ?_ (by kernel_rfl) (fun _ _ _ h => h) hs15r ?_ ?_; rotate_left; (focus (intro wq hSw; have hrd := hSw; have hrd2 : ∀ b' o, b' < w4.heap.size → v.ownBlock ≠ some b' → wq.cell? ⟨b', o, none⟩ = w4.cell? ⟨b', o, none⟩ := (fun b' o h hne => grown_cellO hSw h hne); go_simp; try with_reducible rfl; done)); try simp only [Act.put, List.setIfInBounds_toArray, List.set_cons_zero, List.set_cons_succ])
    (refine e_takeA 6 (by rfl) ?_ (by kernel_rfl) (fun _ _ _ h => h) hs15r ?_ ?_; rotate_left; (focus (intro wq hSw; refine exec_load_blk (x := .tmp 7) ?_ ?_ (hp4.grown hSw (fun e => hvx e.symm)) _ Try.underlying196 rfl (by kernel_rfl) <;> rfl)); simp only [Act.put, List.setIfInBounds_toArray, List.set_cons_zero, List.set_cons_succ])
    (refine e_takeA 7 (by rfl) ?_ (by kernel_rfl) (fun _ _ _ h => h) hs15r ?_ ?_; rotate_left; (focus (intro wq hSw; have hrd := hSw; have hrd2 : ∀ b' o, b' < w4.heap.size → v.ownBlock ≠ some b' → wq.cell? ⟨b', o, none⟩ = w4.cell? ⟨b', o, none⟩ := (fun b' o h hne => grown_cellO hSw h hne); go_simp; try with_reducible rfl; done)); try simp only [Act.put, List.setIfInBounds_toArray, List.set_cons_zero, List.set_cons_succ])
    refine e_callA 8 (by rfl) (by kernel_rfl) (by rfl) (fun KQ hKQ => ?_)
    go_simp
    have hb5 : Below w4.heap.size w4 (w4.drew.alloc (.cells #[.int .i64 id, .int .i64 (addT no n), .int .i64 (co + 1)] 198)) := (Below.refl w4.heap.size w4).drew.alloc (Nat.le_refl _) (.cells #[.int .i64 id, .int .i64 (addT no n), .int .i64 (co + 1)] 198)
    have hseen : Seen sloK (w4.drew.alloc (.cells #[.int .i64 id, .int .i64 (addT no n), .int .i64 (co + 1)] 198)) (fun _ => True) (some ⟨w4.heap.size, 0, none⟩) 1 [(⟨id, addT no n, co + 1⟩ : Slo)] := seen_one (R := sloK) (S := fun _ => False) (S' := fun _ => True) w4.drew 198 (⟨id, addT no n, co + 1⟩ : Slo) #[.int .i64 id, .int .i64 (addT no n), .int .i64 (co + 1)] rfl trivial (fun _ h => h.elim) trivial (fun _ h => h.elim)
    have hT5 := hT4.nx hb5
    have hd : (w4.alloc (.cells #[.int .i64 id, .int .i64 (addT no n), .int .i64 (co + 1)] 198)).drew = w4.drew.alloc (.cells #[.int .i64 id, .int .i64 (addT no n), .int .i64 (co + 1)] 198) := rfl
    try rw [hd]
    clear hd
    generalize w4.drew.alloc (.cells #[.int .i64 id, .int .i64 (addT no n), .int .i64 (co + 1)] 198) = w5 at *
    have hg5' := grown_of_below hb5 (Nat.le_refl _) v.ownBlock
    have hs16r := hg5'
    refine hKQ.out _ _ hs16r ?_
    clear hKQ KQ
    try simp only [Act.put, List.setIfInBounds_toArray, List.set_cons_zero, List.set_cons_succ]
    refine e_callA 9 (by rfl) (by kernel_rfl) (by rfl) (fun KQ hKQ => ?_)
    refine wp_rowsO slo_ok (.tmp 54) (.tmp 58) (by rfl) hT5.row (by rfl) (by rfl) hseen (fun _ _ => trivial) (by unfold maxLen; omega) (by omega) (Nat.zero_le _) ?_
    intro v6 w6 hR6 hg6 ho6
    have hz5 : w.heap.size ≤ w5.heap.size := Nat.le_trans hC4.size hb5.size
    obtain ⟨L, hL⟩ : ∃ L, L = (H ++ [(⟨id, addT no n, co + 1⟩ : Slo)]).length := ⟨_, rfl⟩
    have hL1 : Hid (L = H.length + 1) := Lib.hid (by rw [hL]; simp)
    obtain ⟨A7, c7, e7, -⟩ := hR6.1.any
    rw [← hL] at e7
    subst e7
    replace hL := Lib.hid hL
    have hg46 := grown_trans hg5' hg6
    have hs17r := hg46
    refine hKQ.out _ _ hs17r ?_
    clear hKQ KQ
    try simp only [Act.put, List.setIfInBounds_toArray, List.set_cons_zero, List.set_cons_succ]
    (refine e_takeA 10 (by rfl) ?_ (by kernel_rfl) (fun _ _ _ h => h) hs17r ?_ ?_; rotate_left; (focus (intro wq hSw; have hrd := hSw; have hrd2 : ∀ b' o, b' < w4.heap.size → v.ownBlock ≠ some b' → wq.cell? ⟨b', o, none⟩ = w4.cell? ⟨b', o, none⟩ := (fun b' o h hne => grown_cellO hSw h hne); go_simp; try with_reducible rfl; done)); try simp only [Act.put, List.setIfInBounds_toArray, List.set_cons_zero, List.set_cons_succ])
    (refine e_takeA 11 (by rfl) ?_ (by kernel_rfl) (fun _ _ _ h => h) hs17r ?_ ?_; rotate_left; (focus (intro wq hSw; have hrd := hSw; have hrd2 : ∀ b' o, b' < w4.heap.size → v.ownBlock ≠ some b' → wq.cell? ⟨b', o, none⟩ = w4.cell? ⟨b', o, none⟩ := (fun b' o h hne => grown_cellO hSw h hne); go_simp; try with_reducible rfl; done)); try simp only [Act.put, List.setIfInBounds_toArray, List.set_cons_zero, List.set_cons_succ])
    have hq6 := hT4.blk.grown hg46 (fun e => hng e.symm)
    have hm6 := hT4.ent.grown hg46 (fun e => hT4.nb e.symm)
    have hC6 : Chg w w6 (fun k => k = g ∨ k = b ∨ v.ownBlock = some k) := hC4.trans (Chg.of_grownO (X := fun k => v.ownBlock = some k) hg46 (fun _ e => e)) (fun _ _ h => .inr (.inr h))
    have hX7 : ∀ i, i < w.heap.size → (Value.slice A7 L c7).ownBlock = some i → i = g ∨ i = b ∨ v.ownBlock = some i := fun i hi e => by
      rcases ho6 with q | q
      · exact .inr (.inr (q ▸ e))
      · rw [q] at e; injection e with e; omega
    have n1 := own_ne_blk hR6.1 hq6 (by decide)
    have n2 := own_ne_ent hR6.1 hm6
    have f4 := hq6.frozen 4
    have ltg6 := hq6.lt
    have c46 : w6.cell? ⟨g, 4, none⟩ = some v := hq6.cellv 4 rfl
    refine e_last (by rfl) (by kernel_rfl) (by rfl) (fun KQ hKQ => ?_)
    go_simp
    obtain ⟨hq7, hg7⟩ := blk_store hq6 4 (.slice A7 L c7)
    have hT7 : TabV (w6.setCell ⟨g, 4, none⟩ (.slice A7 L c7)) g b mo no (co + 1) (.slice A7 L c7) A2 (H ++ [⟨id, addT no n, co + 1⟩]) := ⟨hq7, hm6.grown hg7 (fun e => hgb (by injection e with e; exact e.symm)), ⟨hR6.1.kept hg7 (.inr n1), fun _ _ => trivial⟩, n1, n2⟩
    have hC7 : Chg w (w6.setCell ⟨g, 4, none⟩ (.slice A7 L c7)) (fun k => k = g ∨ k = b ∨ v.ownBlock = some k) := hC6.trans (Chg.of_grown (X := fun k => k = g) hg7 rfl) (fun _ _ h => .inl h)
    generalize w6.setCell ⟨g, 4, none⟩ (.slice A7 L c7) = w7 at *
    refine hKQ.out _ _ ?_
    clear hKQ KQ
    try simp only [Act.put]
    refine e_done (by kernel_rfl) ?_ _
    try refine NoPanic.normal ?_
    clear hq7 hg7 hC6 hm6 hq6 hg46 hR6 n1 n2 f4 ltg6 c46 hT5 hg5' hseen hb5 hvx ltx4 hng ltg4 c4 hC4 hp4 hT4 hg5 hC3 hT3 hg6 ho6
    have e1 : (L : Int) - 1 = (H.length : Int) := by have := hL1.out; omega
    have kwL : IntKind.i64.wrap (H.length : Int) = (H.length : Int) := IntWalk.i64_in _ (by omega)
    have kw4 : IntKind.i64.wrap (4 * mo) = 4 * mo := IntWalk.i64_in _ (by omega)
    have kw5 : IntKind.i64.wrap (4 * mo + 64) = 4 * mo + 64 := IntWalk.i64_in _ (by omega)
    have d9 : decide (4 * mo + 64 < (L : Int)) = true := by have := hL1.out; simp; omega
    have c4 : w7.cell? ⟨g, 4, none⟩ = some (.slice A7 L c7) := hT7.blk.cellv 4 rfl
    have ltg := hT7.ltg
    have hup := fun w => up_any w g b mo no (co + 1) (.slice A7 L c7) A2 (H ++ [(⟨id, addT no n, co + 1⟩ : Slo)])
    have hi9 : H.length < (H ++ [(⟨id, addT no n, co + 1⟩ : Slo)]).length := by rw [← hL.out]; omega
    have hn9 : (H ++ [(⟨id, addT no n, co + 1⟩ : Slo)]).length ≤ 1000000 := by rw [← hL.out]; omega
    replace hi9 := Lib.hid hi9
    replace hn9 := Lib.hid hn9
    go_upto_region 12 with (go_at_call 135; refine (hup w7 hT7 H.length hi9.out hn9.out).mono ?_; rintro e w8 ⟨rfl, hT8, hg8⟩)
    have c0 : w8.cell? ⟨g, 0, none⟩ = some (.int .i64 mo) := hT8.blk.cellv 0 rfl
    have c48 : w8.cell? ⟨g, 4, none⟩ = some (.slice A7 L c7) := hT8.blk.cellv 4 rfl
    have ltg8 := hT8.ltg
    have hC8 := hC7.trans (Chg.of_grownO (X := fun k => (Value.slice A7 L c7).ownBlock = some k) hg8 (fun _ e => e)) (fun i hi e => hX7 i hi e)
    go_region
    obtain ⟨r7, hr7⟩ : ∃ r7, A7 = some ⟨r7, 0, none⟩ := by
      rcases hT8.row.1.2 with ⟨h1, h2⟩ | ⟨r, cap, cur, e, _⟩
      · exfalso; injection h1 with _ q _; have := hL1.out; omega
      · injection e with q _ _; exact ⟨r, q⟩
    subst hr7
    have hok8 : ∀ s ∈ upL H.length (H ++ [(⟨id, addT no n, co + 1⟩ : Slo)]) H.length, SloOk s := fun s hs => by
      rw [up_mem] at hs
      rcases List.mem_append.1 hs with hs | hs
      · exact hokH s hs
      · rw [List.mem_singleton] at hs
        subst hs
        exact ⟨h0, by show id ≤ 100000; omega, by show co + 1 ≠ 0; omega⟩
    have hT8d := hT8.nx (Below.refl _ _).drew
    have hL9 : L ≤ 1000000 := by have := hL1.out; omega
    go_wp2_with (go_at_call 136; refine (sweep_any _ g b r7 c7 L mo no (co + 1) A2 _ hT8d hok8 hL9).mono ?_; rintro e w10 ⟨rfl, m10, hT10, hC10⟩)
    go_ret
    exact ⟨_, rfl, hT10, (hC8.trans (Chg.of_below (X := fun _ => False) (Below.refl _ _).drew) (fun _ _ h => h.elim)).trans hC10 (fun i hi e => e.elim .inl fun e => hX7 i hi (by rw [e]; rfl)), fun i hi e => hX7 i hi e⟩
theorem GoodT.armed2 {mo no co id n : Int} {M A H : List Slo} (h : GoodT mo no co M A H) (hid : 0 ≤ id ∧ id < mo) (hn : 1 ≤ n) (hno : 0 ≤ no ∧ no < 1099511627776) (hnew : ∀ s ∈ M, s.id ≠ id) :
    GoodT mo no (co + 1) (M ++ [⟨id, addT no n, co + 1⟩]) (A ++ [⟨id, addT no n, co + 1⟩]) (upL H.length (H ++ [⟨id, addT no n, co + 1⟩]) H.length) := by
  have hod : ∀ s ∈ M, 0 < s.od ∧ s.od ≤ co := fun s hs => by
    have := h.rng s (h.held.2 s (h.perm.mem_iff.2 hs))
    unfold SloIn at this
    omega
  have hf := h.few
  have hco := h.hco
  refine ⟨h.hmo, by omega, h.perm.append_right _, ?_, ?_, ?_, ?_, ⟨arm_heap _ h.held.1, ?_⟩, ?_⟩
  · rw [List.pairwise_append]
    exact ⟨h.asc, by simp, fun a ha b hb => by rw [List.mem_singleton] at hb; subst hb; have := hod a ha; show a.od < co + 1; omega⟩
  · rw [List.pairwise_append]
    exact ⟨h.ids, by simp, fun a ha b hb => by rw [List.mem_singleton] at hb; subst hb; exact hnew a ha⟩
  · intro s hs
    rcases List.mem_append.1 hs with hs | hs
    · exact h.late s hs
    · rw [List.mem_singleton] at hs
      subst hs
      show no < addT no n
      unfold addT
      omega
  · intro s hs
    rw [up_mem] at hs
    rcases List.mem_append.1 hs with hs | hs
    · have := h.rng s hs
      unfold SloIn at *
      omega
    · rw [List.mem_singleton] at hs
      subst hs
      exact ⟨hid.1, hid.2, by show 0 < co + 1; omega, Int.le_refl _⟩
  · intro a ha
    rw [up_mem]
    rcases List.mem_append.1 ha with ha | ha
    · exact List.mem_append_left _ (h.held.2 a ha)
    · exact List.mem_append_right _ ha
  · rw [upL_len, List.length_append]
    simp only [List.length_singleton]
    omega
theorem armX {w : World} {X : Nat → Prop} {g : Nat} {mo no co : Int} {M : List Slo} (h : TabX w X g mo no co M) (id n : Int) (hid : 0 ≤ id ∧ id < mo) (hn : 1 ≤ n) (hno : 0 ≤ no ∧ no < 1099511627776) (hco5 : co ≤ 5000) :
    Calls Try.prog 54 #[.pointer (some ⟨g, 0, none⟩), .int .i64 id, .int .i64 n] w fun e w' => e = .returned (.int .i64 0) ∧ TabX w' (fun k => X k ∨ (w.heap.size ≤ k ∧ k < w'.heap.size)) g mo no (co + 1) (noId id M ++ [⟨id, addT no n, co + 1⟩]) ∧ Chg w w' X := by
  obtain ⟨b, v, A, H, hT, hG, hX, hlt⟩ := h
  have hmo := hG.hmo
  have hf := hG.few
  have hco := hG.hco
  obtain ⟨A2, hput, hG2⟩ : ∃ A2, PutT b id (addT no n) (co + 1) A A2 ∧ GoodT mo no (co + 1) (noId id M ++ [⟨id, addT no n, co + 1⟩]) A2 (upL H.length (H ++ [⟨id, addT no n, co + 1⟩]) H.length) := by
    by_cases hm : ∃ s ∈ M, s.id = id
    · obtain ⟨s, hs, rfl⟩ := hm
      obtain ⟨j, hj⟩ := List.getElem?_of_mem (hG.perm.mem_iff.2 hs)
      exact ⟨_, putT_old b s.id _ _ A (by omega) hj rfl, hG.rearmed hid hn hno hj rfl⟩
    · have hnew : ∀ s ∈ M, s.id ≠ id := fun s hs e => hm ⟨s, hs, e⟩
      rw [noId_none hnew]
      exact ⟨_, putT_new b id _ _ A (by omega) fun a ha => hnew a (hG.perm.mem_iff.1 ha), hG.armed2 hid hn hno hnew⟩
  have fin : ∀ (e : Ending) (w' : World) (H' : List Slo), GoodT mo no (co + 1) (noId id M ++ [⟨id, addT no n, co + 1⟩]) A2 H' → (∃ v', e = .returned (.int .i64 0) ∧ TabV w' g b mo no (co + 1) v' A2 H' ∧ Chg w w' (fun k => k = g ∨ k = b ∨ v.ownBlock = some k) ∧ ∀ i, i < w.heap.size → v'.ownBlock = some i → i = g ∨ i = b ∨ v.ownBlock = some i) →
      (e = .returned (.int .i64 0) ∧ TabX w' (fun k => X k ∨ (w.heap.size ≤ k ∧ k < w'.heap.size)) g mo no (co + 1) (noId id M ++ [⟨id, addT no n, co + 1⟩]) ∧ Chg w w' X) := by
    rintro e w' H' hG' ⟨v', rfl, hT', hC, hv'⟩
    have hz := hC.size
    refine ⟨rfl, ⟨b, v', _, _, hT', hG', fun k hk => ?_, fun k hk => ?_⟩, hC.mono fun i _ hi => hX i hi⟩
    · by_cases hkw : k < w.heap.size
      · refine .inl ?_
        rcases hk with q | q | q
        · exact hX k (.inl q)
        · exact hX k (.inr (.inl q))
        · exact hX k (hv' k hkw q)
      · refine .inr ⟨by omega, ?_⟩
        rcases hk with q | q | q
        · have := hT.ltg; omega
        · have := hT.ltb; omega
        · exact (hT'.row.1.lt k q).2
    · rcases hk with q | q
      · exact Nat.lt_of_lt_of_le (hlt k q) hz
      · exact q.2
  by_cases hroom : (H.length : Int) + 1 ≤ 4 * mo + 64
  · exact (arm_any w g b mo no co v A H id n hT hid.1 hid.2 hn hmo.2 ⟨hco, by omega⟩ hroom _ hput).mono fun e w' q => fin e w' _ hG2 q
  · have hok : ∀ s ∈ H, SloOk s := fun s hs => by have := hG.rng s hs; unfold SloIn at this; unfold SloOk; omega
    exact (armS_any w g b mo no co v A H id n hT hid.1 hid.2 hn hmo.2 ⟨hco, by omega⟩ hok (by omega) (by omega) _ hput).mono fun e w' q => fin e w' _ hG2.swept q
section
variable (w : World) (X : Nat → Prop) (g : Nat) (mo no co : Int) (M : List Slo) (h : TabX w X g mo no co M)
include h
theorem armBadX (id n : Int) (h0 : id < 0 ∨ mo ≤ id) :
    Calls Try.prog 54 #[.pointer (some ⟨g, 0, none⟩), .int .i64 id, .int .i64 n] w fun e w' => e = .returned (.int .i64 9) ∧ w = w' := by
  obtain ⟨b, v, A, H, hT, hG, hX, hlt⟩ := h
  have c0 : w.cell? ⟨g, 0, none⟩ = some (.int .i64 mo) := hT.blk.cellv 0 rfl
  have ltg := hT.ltg
  go_enter Try.func54, Try.ntmps54
  by_cases hl : id < 0
  · have t1 : decide (id < 0) = true := by simpa using hl
    go_wp2_with (go_at_call 134; refine (madeT_in hT).mono ?_; rintro e w' ⟨rfl, rfl⟩)
    go_ret
    exact ⟨rfl, rfl⟩
  · have t1 : decide (id < 0) = false := by simpa using hl
    have t2 : decide (mo ≤ id) = true := by simp; omega
    go_wp2_with (go_at_call 134; refine (madeT_in hT).mono ?_; rintro e w' ⟨rfl, rfl⟩)
    go_ret
    exact ⟨rfl, rfl⟩
theorem armArgX (id n : Int) (h0 : 0 ≤ id) (h1 : id < mo) (h2 : n < 1) :
    Calls Try.prog 54 #[.pointer (some ⟨g, 0, none⟩), .int .i64 id, .int .i64 n] w fun e w' => e = .returned (.int .i64 2) ∧ w = w' := by
  obtain ⟨b, v, A, H, hT, hG, hX, hlt⟩ := h
  have c0 : w.cell? ⟨g, 0, none⟩ = some (.int .i64 mo) := hT.blk.cellv 0 rfl
  have ltg := hT.ltg
  have t1 : decide (id < 0) = false := by simp; omega
  have t2 : decide (mo ≤ id) = false := by simp; omega
  go_enter Try.func54, Try.ntmps54
  go_wp2_with (go_at_call 134; refine (madeT_in hT).mono ?_; rintro e w' ⟨rfl, rfl⟩)
  go_ret
  exact ⟨rfl, rfl⟩
theorem nowX : Calls Try.prog 63 #[.pointer (some ⟨g, 0, none⟩)] w fun e w' => e = .returned (.int .i64 no) ∧ w = w' := by
  obtain ⟨b, v, A, H, hT, hG, hX, hlt⟩ := h
  exact nowT_in hT
theorem whenX (id : Int) (r0 : -9223372036854775808 ≤ id) (r1 : id ≤ 9223372036854775807) :
    Calls Try.prog 59 #[.pointer (some ⟨g, 0, none⟩), .int .i64 id] w fun e w' => e = .returned (.tuple #[.int .i64 (findN (rowsOf M) id).1, .bool (findN (rowsOf M) id).2]) ∧ Below w.heap.size w w' := by
  obtain ⟨b, v, A, H, hT, hG, hX, hlt⟩ := h
  by_cases hm : ∃ s ∈ M, s.id = id
  · obtain ⟨s, hs, rfl⟩ := hm
    rw [find_some hG.ids hs]
    exact whenHit w g b mo no co v A H hT s (hG.perm.mem_iff.2 hs) r0 r1
  · have hnew : ∀ s ∈ M, s.id ≠ id := fun s hs e => hm ⟨s, hs, e⟩
    rw [find_none hnew]
    exact whenMiss w g b mo no co v A H hT id (fun a ha => hnew a (hG.perm.mem_iff.1 ha)) r0 r1
end
end Go.Proofs.Ytejgekoinbdhjaa
