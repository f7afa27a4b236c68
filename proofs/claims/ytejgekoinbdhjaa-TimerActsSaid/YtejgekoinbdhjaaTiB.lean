/- timer: less, old. -/
import Derived.Test.YtejgekoinbdhjaaTiA
import Derived.Test.YtejgekoinbdhjaaLate
import Derived.Test.YtejgekoinbdhjaaDrawE
import Derived.BigRegion
namespace Go.Proofs.Ytejgekoinbdhjaa
set_option linter.unusedVariables false
open Go Go.RowKit Go.Maps

theorem slo_cells {w : World} {S : Nat → Prop} {A : Option Addr} {n : Nat} {H : List Slo} (h : Seen sloK w S A n H) (hn : 0 < n) :
    ∃ b off, A = some ⟨b, off, none⟩ ∧ S b ∧ ∀ k s, H[k]? = some s → w.cell? ⟨b, off + k * 3, none⟩ = some (.int .i64 s.id) ∧ w.cell? ⟨b, off + k * 3 + 1, none⟩ = some (.int .i64 s.ex) ∧ w.cell? ⟨b, off + k * 3 + 2, none⟩ = some (.int .i64 s.od) := by
  obtain ⟨b, off, e, hb, hc⟩ := h.2.2 hn
  refine ⟨b, off, e, hb, fun k s hk => ⟨hc k s hk 0 (by decide), hc k s hk 1 (by decide), hc k s hk 2 (by decide)⟩⟩
def orI (x y : Int) : Int := if x = 0 then y else x
set_option maxHeartbeats 1000000 in
theorem orI_two (w : World) (p : Nat) (c : Nat) (x y : Int) (c0 : w.cell? ⟨p, 0, none⟩ = some (.int .i64 x)) (c1 : w.cell? ⟨p, 1, none⟩ = some (.int .i64 y)) :
    Calls Try.prog 188 #[.slice (some ⟨p, 0, none⟩) 2 c] w fun e w' => e = .returned (.int .i64 (orI x y)) ∧ w = w' := by
  go_enter Try.func188, Try.ntmps188
  go_wp2_with fail
  refine wp_loop_rounds 3 ?_
  rw [rounds_succ]
  by_cases hx : x = 0
  · subst hx
    go_wp2_with fail
    rw [rounds_succ]
    by_cases hy : y = 0
    · subst hy
      go_wp2_with fail
      rw [rounds_succ]
      go_wp2_with fail
      go_ret
      exact ⟨rfl, rfl⟩
    · have d : (y == 0) = false := by simpa using hy
      go_wp2_with fail
      go_ret
      exact ⟨rfl, rfl⟩
  · have d : (x == 0) = false := by simpa using hx
    have e : orI x y = x := by unfold orI; simp [hx]
    replace e := Lib.hid e
    go_wp2_with fail
    go_ret
    exact ⟨ret_int e.out.symm, rfl⟩
def lessT (a b : Slo) : Bool := decide (a.ex < b.ex) || (decide (a.ex = b.ex) && decide (a.od < b.od))
theorem lessT_cmp (a b : Slo) : decide (orI (cmpI a.ex b.ex) (cmpI a.od b.od) < 0) = lessT a b := by
  unfold orI cmpI lessT
  by_cases h1 : a.ex < b.ex
  · simp [h1]
  · by_cases h2 : b.ex < a.ex
    · have : a.ex ≠ b.ex := by omega
      simp [h1, h2, this]
    · have : a.ex = b.ex := by omega
      by_cases h3 : a.od < b.od
      · simp [this, h3]
      · by_cases h4 : b.od < a.od <;> simp [this, h3, h4]
set_option maxRecDepth 100000 in
set_option maxHeartbeats 2000000 in
theorem lessT_any (w : World) (g b : Nat) (mo no co : Int) (v : Value) (M H : List Slo) (h : TabV w g b mo no co v M H) (i j : Nat) (x y : Slo) (hi : H[i]? = some x) (hj : H[j]? = some y) (hn : H.length ≤ 1000000) :
    Calls Try.prog 174 #[.pointer (some ⟨g, 0, none⟩), .int .i64 (i : Int), .int .i64 (j : Int)] w fun e w' => e = .returned (.bool (lessT x y)) ∧ Below w.heap.size w w' := by
  obtain ⟨A, cap, rfl, hc1, hc2, hS⟩ := h.row.seen (Nat.le_refl _)
  have hil := (List.getElem?_eq_some_iff.1 hi).1
  have hjl := (List.getElem?_eq_some_iff.1 hj).1
  obtain ⟨r, off, rfl, ltr, hcell⟩ := slo_cells hS (by omega)
  obtain ⟨-, x1, x2⟩ := hcell i x hi
  obtain ⟨-, y1, y2⟩ := hcell j y hj
  have c4 : w.cell? ⟨g, 4, none⟩ = some (.slice (some ⟨r, off, none⟩) H.length cap) := h.blk.cellv 4 rfl
  have ltg := h.ltg
  have hii : (i : Int) < H.length := by omega
  have hji : (j : Int) < H.length := by omega
  have ltr2 := ltr.2
  clear hcell hS hi hj
  generalize H.length = n at *
  have hr := Lib.hid (lessT_cmp x y)
  go_enter Try.func174, Try.ntmps174
  go_upto_region 1 with (fail)
  go_region
  · have hB := ((Below.refl w.heap.size w).alloc (Nat.le_refl _) (.cells #[.int .i64 x.ex, .int .i64 x.od] 196)).alloc (by simp) (.cells #[.int .i64 y.ex, .int .i64 y.od] 196)
    have hp1 := (Blk.new w 196 #[.int .i64 x.ex, .int .i64 x.od]).alloc (.cells #[.int .i64 y.ex, .int .i64 y.od] 196)
    have hp2 := Blk.new (w.alloc (.cells #[.int .i64 x.ex, .int .i64 x.od] 196)) 196 #[.int .i64 y.ex, .int .i64 y.od]
    rw [show (w.alloc (.cells #[.int .i64 x.ex, .int .i64 x.od] 196)).heap.size = w.heap.size + 1 by simp] at hp2
    clear x1 x2 y1 y2 c4
    go_upto_region 2 with (fail)
    have hBd := hB.drew
    have hp1d : Blk ((w.alloc (.cells #[.int .i64 x.ex, .int .i64 x.od] 196)).alloc (.cells #[.int .i64 y.ex, .int .i64 y.od] 196)).drew w.heap.size 196 #[.int .i64 x.ex, .int .i64 x.od] := hp1
    have hp2d : Blk ((w.alloc (.cells #[.int .i64 x.ex, .int .i64 x.od] 196)).alloc (.cells #[.int .i64 y.ex, .int .i64 y.od] 196)).drew (w.heap.size + 1) 196 #[.int .i64 y.ex, .int .i64 y.od] := hp2
    clear hB hp1 hp2
    generalize ((w.alloc (.cells #[.int .i64 x.ex, .int .i64 x.od] 196)).alloc (.cells #[.int .i64 y.ex, .int .i64 y.od] 196)).drew = w1 at *
    have q1 := hp1d.cellv 0 rfl
    have q2 := hp1d.cellv 1 rfl
    have q3 := hp2d.cellv 0 rfl
    have q4 := hp2d.cellv 1 rfl
    have lq1 := hp1d.lt
    have lq2 := hp2d.lt
    -- region 2: 0 1 2 3 4C 5 6 7 8 9C 10M 11C 12 13
    try refine wp_region_noPanic ?_
    have hs1r : Below w1.heap.size w1 w1.drew := (Below.refl _ _).drew
    refine wp_region_held_drew (S := fun w' => Below w1.heap.size w1 w') (by kernel_rfl) hs1r (fun _ => ?_)
    (refine held_takeA 0 (by rfl) ?_ (by kernel_rfl) (fun _ _ _ h => h) hs1r ?_ ?_; rotate_left; (focus (intro wq hSw; have hrd : ∀ b o, b < w1.heap.size → wq.cell? ⟨b, o, none⟩ = w1.cell? ⟨b, o, none⟩ := (fun b o h => hSw.cell (p := ⟨b, o, none⟩) h); go_simp; try with_reducible rfl; done)); try simp only [Act.put, List.setIfInBounds_toArray, List.set_cons_zero, List.set_cons_succ])
    (refine held_takeA 1 (by rfl) ?_ (by kernel_rfl) (fun _ _ _ h => h) hs1r ?_ ?_; rotate_left; (focus (intro wq hSw; have hrd : ∀ b o, b < w1.heap.size → wq.cell? ⟨b, o, none⟩ = w1.cell? ⟨b, o, none⟩ := (fun b o h => hSw.cell (p := ⟨b, o, none⟩) h); go_simp; try with_reducible rfl; done)); try simp only [Act.put, List.setIfInBounds_toArray, List.set_cons_zero, List.set_cons_succ])
    (refine held_takeA 2 (by rfl) ?_ (by kernel_rfl) (fun _ _ _ h => h) hs1r ?_ ?_; rotate_left; (focus (intro wq hSw; have hrd : ∀ b o, b < w1.heap.size → wq.cell? ⟨b, o, none⟩ = w1.cell? ⟨b, o, none⟩ := (fun b o h => hSw.cell (p := ⟨b, o, none⟩) h); go_simp; try with_reducible rfl; done)); try simp only [Act.put, List.setIfInBounds_toArray, List.set_cons_zero, List.set_cons_succ])
    (refine held_takeA 3 (by rfl) ?_ (by kernel_rfl) (fun _ _ _ h => h) hs1r ?_ ?_; rotate_left; (focus (intro wq hSw; have hrd : ∀ b o, b < w1.heap.size → wq.cell? ⟨b, o, none⟩ = w1.cell? ⟨b, o, none⟩ := (fun b o h => hSw.cell (p := ⟨b, o, none⟩) h); go_simp; try with_reducible rfl; done)); try simp only [Act.put, List.setIfInBounds_toArray, List.set_cons_zero, List.set_cons_succ])
    (refine held_takeA 5 (by rfl) ?_ (by kernel_rfl) (fun _ _ _ h => h) hs1r ?_ ?_; rotate_left; (focus (intro wq hSw; have hrd : ∀ b o, b < w1.heap.size → wq.cell? ⟨b, o, none⟩ = w1.cell? ⟨b, o, none⟩ := (fun b o h => hSw.cell (p := ⟨b, o, none⟩) h); go_simp; try with_reducible rfl; done)); try simp only [Act.put, List.setIfInBounds_toArray, List.set_cons_zero, List.set_cons_succ])
    (refine held_takeA 6 (by rfl) ?_ (by kernel_rfl) (fun _ _ _ h => h) hs1r ?_ ?_; rotate_left; (focus (intro wq hSw; have hrd : ∀ b o, b < w1.heap.size → wq.cell? ⟨b, o, none⟩ = w1.cell? ⟨b, o, none⟩ := (fun b o h => hSw.cell (p := ⟨b, o, none⟩) h); go_simp; try with_reducible rfl; done)); try simp only [Act.put, List.setIfInBounds_toArray, List.set_cons_zero, List.set_cons_succ])
    (refine held_takeA 7 (by rfl) ?_ (by kernel_rfl) (fun _ _ _ h => h) hs1r ?_ ?_; rotate_left; (focus (intro wq hSw; have hrd : ∀ b o, b < w1.heap.size → wq.cell? ⟨b, o, none⟩ = w1.cell? ⟨b, o, none⟩ := (fun b o h => hSw.cell (p := ⟨b, o, none⟩) h); go_simp; try with_reducible rfl; done)); try simp only [Act.put, List.setIfInBounds_toArray, List.set_cons_zero, List.set_cons_succ])
    (refine held_takeA 8 (by rfl) ?_ (by kernel_rfl) (fun _ _ _ h => h) hs1r ?_ ?_; rotate_left; (focus (intro wq hSw; have hrd : ∀ b o, b < w1.heap.size → wq.cell? ⟨b, o, none⟩ = w1.cell? ⟨b, o, none⟩ := (fun b o h => hSw.cell (p := ⟨b, o, none⟩) h); go_simp; try with_reducible rfl; done)); try simp only [Act.put, List.setIfInBounds_toArray, List.set_cons_zero, List.set_cons_succ])
    refine held_callA 4 (by rfl) (by kernel_rfl) (by rfl) (fun KQ hKQ => ?_)
    go_simp
    refine (cmpI_any _ _ _).mono ?_
    rintro e w' ⟨rfl, rfl⟩
    have hs2r := (show Below w1.heap.size w1 w1.drew from (Below.refl _ _).drew)
    refine hKQ.out _ _ hs2r ?_
    clear hKQ KQ
    try simp only [Act.put, List.setIfInBounds_toArray, List.set_cons_zero, List.set_cons_succ]
    refine held_callA 9 (by rfl) (by kernel_rfl) (by rfl) (fun KQ hKQ => ?_)
    go_simp
    refine (cmpI_any _ _ _).mono ?_
    rintro e w' ⟨rfl, rfl⟩
    have hs3r := (show Below w1.heap.size w1 w1.drew from (Below.refl _ _).drew)
    refine hKQ.out _ _ hs3r ?_
    clear hKQ KQ
    try simp only [Act.put, List.setIfInBounds_toArray, List.set_cons_zero, List.set_cons_succ]
    refine held_callA 10 (by rfl) (by kernel_rfl) (by rfl) (fun KQ hKQ => ?_)
    go_simp
    have hb2 : Below w1.heap.size w1 (w1.drew.alloc (.cells #[.int .i64 (cmpI x.ex y.ex), .int .i64 (cmpI x.od y.od)] 3)) := (Below.refl w1.heap.size w1).drew.alloc (Nat.le_refl _) (.cells #[.int .i64 (cmpI x.ex y.ex), .int .i64 (cmpI x.od y.od)] 3)
    have hq : Blk (w1.drew.alloc (.cells #[.int .i64 (cmpI x.ex y.ex), .int .i64 (cmpI x.od y.od)] 3)) w1.heap.size 3 #[.int .i64 (cmpI x.ex y.ex), .int .i64 (cmpI x.od y.od)] := Blk.new w1.drew 3 #[.int .i64 (cmpI x.ex y.ex), .int .i64 (cmpI x.od y.od)]
    have hd : (w1.alloc (.cells #[.int .i64 (cmpI x.ex y.ex), .int .i64 (cmpI x.od y.od)] 3)).drew = w1.drew.alloc (.cells #[.int .i64 (cmpI x.ex y.ex), .int .i64 (cmpI x.od y.od)] 3) := rfl
    try rw [hd]
    clear hd
    generalize w1.drew.alloc (.cells #[.int .i64 (cmpI x.ex y.ex), .int .i64 (cmpI x.od y.od)] 3) = w2 at *
    have z0 := hq.cellv 0 rfl
    have z1 := hq.cellv 1 rfl
    have hs4r := hb2
    refine hKQ.out _ _ hs4r ?_
    clear hKQ KQ
    try simp only [Act.put, List.setIfInBounds_toArray, List.set_cons_zero, List.set_cons_succ]
    refine held_callA 11 (by rfl) (by kernel_rfl) (by rfl) (fun KQ hKQ => ?_)
    go_simp
    refine (orI_two w2 w1.heap.size 2 _ _ z0 z1).mono ?_
    rintro e w' ⟨rfl, rfl⟩
    have hs5r := hb2
    refine hKQ.out _ _ hs5r ?_
    clear hKQ KQ
    try simp only [Act.put, List.setIfInBounds_toArray, List.set_cons_zero, List.set_cons_succ]
    (refine held_takeA 12 (by rfl) ?_ (by kernel_rfl) (fun _ _ _ h => h) hs5r ?_ ?_; rotate_left; (focus (intro wq hSw; have hrd : ∀ b o, b < w1.heap.size → wq.cell? ⟨b, o, none⟩ = w1.cell? ⟨b, o, none⟩ := (fun b o h => hSw.cell (p := ⟨b, o, none⟩) h); go_simp; try with_reducible rfl; done)); try simp only [Act.put, List.setIfInBounds_toArray, List.set_cons_zero, List.set_cons_succ])
    (refine held_takeA 13 (by rfl) ?_ (by kernel_rfl) (fun _ _ _ h => h) hs5r ?_ ?_; rotate_left; (focus (intro wq hSw; have hrd : ∀ b o, b < w1.heap.size → wq.cell? ⟨b, o, none⟩ = w1.cell? ⟨b, o, none⟩ := (fun b o h => hSw.cell (p := ⟨b, o, none⟩) h); go_simp; try with_reducible rfl; done)); try simp only [Act.put, List.setIfInBounds_toArray, List.set_cons_zero, List.set_cons_succ])
    refine wpAnyH_done (by kernel_rfl) ?_ _
    try refine NoPanic.normal ?_
    go_wp2_with fail
    go_ret
    exact ⟨ret_bool hr.out, hBd.trans (hb2.mono hBd.size)⟩
  · have hB := ((Below.refl w.heap.size w).alloc (Nat.le_refl _) (.cells #[.int .i64 y.ex, .int .i64 y.od] 196)).alloc (by simp) (.cells #[.int .i64 x.ex, .int .i64 x.od] 196)
    have hp1 := (Blk.new w 196 #[.int .i64 y.ex, .int .i64 y.od]).alloc (.cells #[.int .i64 x.ex, .int .i64 x.od] 196)
    have hp2 := Blk.new (w.alloc (.cells #[.int .i64 y.ex, .int .i64 y.od] 196)) 196 #[.int .i64 x.ex, .int .i64 x.od]
    rw [show (w.alloc (.cells #[.int .i64 y.ex, .int .i64 y.od] 196)).heap.size = w.heap.size + 1 by simp] at hp2
    clear x1 x2 y1 y2 c4
    go_upto_region 2 with (fail)
    have hBd := hB.drew
    have hp1d : Blk ((w.alloc (.cells #[.int .i64 y.ex, .int .i64 y.od] 196)).alloc (.cells #[.int .i64 x.ex, .int .i64 x.od] 196)).drew w.heap.size 196 #[.int .i64 y.ex, .int .i64 y.od] := hp1
    have hp2d : Blk ((w.alloc (.cells #[.int .i64 y.ex, .int .i64 y.od] 196)).alloc (.cells #[.int .i64 x.ex, .int .i64 x.od] 196)).drew (w.heap.size + 1) 196 #[.int .i64 x.ex, .int .i64 x.od] := hp2
    clear hB hp1 hp2
    generalize ((w.alloc (.cells #[.int .i64 y.ex, .int .i64 y.od] 196)).alloc (.cells #[.int .i64 x.ex, .int .i64 x.od] 196)).drew = w1 at *
    have q1 := hp1d.cellv 0 rfl
    have q2 := hp1d.cellv 1 rfl
    have q3 := hp2d.cellv 0 rfl
    have q4 := hp2d.cellv 1 rfl
    have lq1 := hp1d.lt
    have lq2 := hp2d.lt
    -- region 2: 0 1 2 3 4C 5 6 7 8 9C 10M 11C 12 13
    try refine wp_region_noPanic ?_
    have hs6r : Below w1.heap.size w1 w1.drew := (Below.refl _ _).drew
    refine wp_region_held_drew (S := fun w' => Below w1.heap.size w1 w') (by kernel_rfl) hs6r (fun _ => ?_)
    (refine held_takeA 0 (by rfl) ?_ (by kernel_rfl) (fun _ _ _ h => h) hs6r ?_ ?_; rotate_left; (focus (intro wq hSw; have hrd : ∀ b o, b < w1.heap.size → wq.cell? ⟨b, o, none⟩ = w1.cell? ⟨b, o, none⟩ := (fun b o h => hSw.cell (p := ⟨b, o, none⟩) h); go_simp; try with_reducible rfl; done)); try simp only [Act.put, List.setIfInBounds_toArray, List.set_cons_zero, List.set_cons_succ])
    (refine held_takeA 1 (by rfl) ?_ (by kernel_rfl) (fun _ _ _ h => h) hs6r ?_ ?_; rotate_left; (focus (intro wq hSw; have hrd : ∀ b o, b < w1.heap.size → wq.cell? ⟨b, o, none⟩ = w1.cell? ⟨b, o, none⟩ := (fun b o h => hSw.cell (p := ⟨b, o, none⟩) h); go_simp; try with_reducible rfl; done)); try simp only [Act.put, List.setIfInBounds_toArray, List.set_cons_zero, List.set_cons_succ])
    (refine held_takeA 2 (by rfl) ?_ (by kernel_rfl) (fun _ _ _ h => h) hs6r ?_ ?_; rotate_left; (focus (intro wq hSw; have hrd : ∀ b o, b < w1.heap.size → wq.cell? ⟨b, o, none⟩ = w1.cell? ⟨b, o, none⟩ := (fun b o h => hSw.cell (p := ⟨b, o, none⟩) h); go_simp; try with_reducible rfl; done)); try simp only [Act.put, List.setIfInBounds_toArray, List.set_cons_zero, List.set_cons_succ])
    (refine held_takeA 3 (by rfl) ?_ (by kernel_rfl) (fun _ _ _ h => h) hs6r ?_ ?_; rotate_left; (focus (intro wq hSw; have hrd : ∀ b o, b < w1.heap.size → wq.cell? ⟨b, o, none⟩ = w1.cell? ⟨b, o, none⟩ := (fun b o h => hSw.cell (p := ⟨b, o, none⟩) h); go_simp; try with_reducible rfl; done)); try simp only [Act.put, List.setIfInBounds_toArray, List.set_cons_zero, List.set_cons_succ])
    (refine held_takeA 5 (by rfl) ?_ (by kernel_rfl) (fun _ _ _ h => h) hs6r ?_ ?_; rotate_left; (focus (intro wq hSw; have hrd : ∀ b o, b < w1.heap.size → wq.cell? ⟨b, o, none⟩ = w1.cell? ⟨b, o, none⟩ := (fun b o h => hSw.cell (p := ⟨b, o, none⟩) h); go_simp; try with_reducible rfl; done)); try simp only [Act.put, List.setIfInBounds_toArray, List.set_cons_zero, List.set_cons_succ])
    (refine held_takeA 6 (by rfl) ?_ (by kernel_rfl) (fun _ _ _ h => h) hs6r ?_ ?_; rotate_left; (focus (intro wq hSw; have hrd : ∀ b o, b < w1.heap.size → wq.cell? ⟨b, o, none⟩ = w1.cell? ⟨b, o, none⟩ := (fun b o h => hSw.cell (p := ⟨b, o, none⟩) h); go_simp; try with_reducible rfl; done)); try simp only [Act.put, List.setIfInBounds_toArray, List.set_cons_zero, List.set_cons_succ])
    (refine held_takeA 7 (by rfl) ?_ (by kernel_rfl) (fun _ _ _ h => h) hs6r ?_ ?_; rotate_left; (focus (intro wq hSw; have hrd : ∀ b o, b < w1.heap.size → wq.cell? ⟨b, o, none⟩ = w1.cell? ⟨b, o, none⟩ := (fun b o h => hSw.cell (p := ⟨b, o, none⟩) h); go_simp; try with_reducible rfl; done)); try simp only [Act.put, List.setIfInBounds_toArray, List.set_cons_zero, List.set_cons_succ])
    (refine held_takeA 8 (by rfl) ?_ (by kernel_rfl) (fun _ _ _ h => h) hs6r ?_ ?_; rotate_left; (focus (intro wq hSw; have hrd : ∀ b o, b < w1.heap.size → wq.cell? ⟨b, o, none⟩ = w1.cell? ⟨b, o, none⟩ := (fun b o h => hSw.cell (p := ⟨b, o, none⟩) h); go_simp; try with_reducible rfl; done)); try simp only [Act.put, List.setIfInBounds_toArray, List.set_cons_zero, List.set_cons_succ])
    refine held_callA 4 (by rfl) (by kernel_rfl) (by rfl) (fun KQ hKQ => ?_)
    go_simp
    refine (cmpI_any _ _ _).mono ?_
    rintro e w' ⟨rfl, rfl⟩
    have hs7r := (show Below w1.heap.size w1 w1.drew from (Below.refl _ _).drew)
    refine hKQ.out _ _ hs7r ?_
    clear hKQ KQ
    try simp only [Act.put, List.setIfInBounds_toArray, List.set_cons_zero, List.set_cons_succ]
    refine held_callA 9 (by rfl) (by kernel_rfl) (by rfl) (fun KQ hKQ => ?_)
    go_simp
    refine (cmpI_any _ _ _).mono ?_
    rintro e w' ⟨rfl, rfl⟩
    have hs8r := (show Below w1.heap.size w1 w1.drew from (Below.refl _ _).drew)
    refine hKQ.out _ _ hs8r ?_
    clear hKQ KQ
    try simp only [Act.put, List.setIfInBounds_toArray, List.set_cons_zero, List.set_cons_succ]
    refine held_callA 10 (by rfl) (by kernel_rfl) (by rfl) (fun KQ hKQ => ?_)
    go_simp
    have hb2 : Below w1.heap.size w1 (w1.drew.alloc (.cells #[.int .i64 (cmpI x.ex y.ex), .int .i64 (cmpI x.od y.od)] 3)) := (Below.refl w1.heap.size w1).drew.alloc (Nat.le_refl _) (.cells #[.int .i64 (cmpI x.ex y.ex), .int .i64 (cmpI x.od y.od)] 3)
    have hq : Blk (w1.drew.alloc (.cells #[.int .i64 (cmpI x.ex y.ex), .int .i64 (cmpI x.od y.od)] 3)) w1.heap.size 3 #[.int .i64 (cmpI x.ex y.ex), .int .i64 (cmpI x.od y.od)] := Blk.new w1.drew 3 #[.int .i64 (cmpI x.ex y.ex), .int .i64 (cmpI x.od y.od)]
    have hd : (w1.alloc (.cells #[.int .i64 (cmpI x.ex y.ex), .int .i64 (cmpI x.od y.od)] 3)).drew = w1.drew.alloc (.cells #[.int .i64 (cmpI x.ex y.ex), .int .i64 (cmpI x.od y.od)] 3) := rfl
    try rw [hd]
    clear hd
    generalize w1.drew.alloc (.cells #[.int .i64 (cmpI x.ex y.ex), .int .i64 (cmpI x.od y.od)] 3) = w2 at *
    have z0 := hq.cellv 0 rfl
    have z1 := hq.cellv 1 rfl
    have hs9r := hb2
    refine hKQ.out _ _ hs9r ?_
    clear hKQ KQ
    try simp only [Act.put, List.setIfInBounds_toArray, List.set_cons_zero, List.set_cons_succ]
    refine held_callA 11 (by rfl) (by kernel_rfl) (by rfl) (fun KQ hKQ => ?_)
    go_simp
    refine (orI_two w2 w1.heap.size 2 _ _ z0 z1).mono ?_
    rintro e w' ⟨rfl, rfl⟩
    have hs10r := hb2
    refine hKQ.out _ _ hs10r ?_
    clear hKQ KQ
    try simp only [Act.put, List.setIfInBounds_toArray, List.set_cons_zero, List.set_cons_succ]
    (refine held_takeA 12 (by rfl) ?_ (by kernel_rfl) (fun _ _ _ h => h) hs10r ?_ ?_; rotate_left; (focus (intro wq hSw; have hrd : ∀ b o, b < w1.heap.size → wq.cell? ⟨b, o, none⟩ = w1.cell? ⟨b, o, none⟩ := (fun b o h => hSw.cell (p := ⟨b, o, none⟩) h); go_simp; try with_reducible rfl; done)); try simp only [Act.put, List.setIfInBounds_toArray, List.set_cons_zero, List.set_cons_succ])
    (refine held_takeA 13 (by rfl) ?_ (by kernel_rfl) (fun _ _ _ h => h) hs10r ?_ ?_; rotate_left; (focus (intro wq hSw; have hrd : ∀ b o, b < w1.heap.size → wq.cell? ⟨b, o, none⟩ = w1.cell? ⟨b, o, none⟩ := (fun b o h => hSw.cell (p := ⟨b, o, none⟩) h); go_simp; try with_reducible rfl; done)); try simp only [Act.put, List.setIfInBounds_toArray, List.set_cons_zero, List.set_cons_succ])
    refine wpAnyH_done (by kernel_rfl) ?_ _
    try refine NoPanic.normal ?_
    go_wp2_with fail
    go_ret
    exact ⟨ret_bool hr.out, hBd.trans (hb2.mono hBd.size)⟩
end Go.Proofs.Ytejgekoinbdhjaa
