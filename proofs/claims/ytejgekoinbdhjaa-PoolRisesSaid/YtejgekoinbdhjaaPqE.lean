/- pool: do both tell the same? -/
import Derived.Test.YtejgekoinbdhjaaPqD
namespace Go.Proofs.Ytejgekoinbdhjaa
set_option linter.unusedVariables false
open Go Go.RowKit Go.Maps

set_option maxRecDepth 100000 in
set_option maxHeartbeats 8000000 in
theorem alike25 (w : World) (g b : Nat) (pc : Int) (M : List Mem) (X : Nat → Prop) (gr : Nat) (L : List Mem) (id : Int) (h : PoolIn w g b pc M) (hr : RefIn w X gr pc L) (hR : Rel M L) (r0 : -9223372036854775808 ≤ id) (r1 : id ≤ 9223372036854775807) :
    Calls Try.prog 36 #[.pointer (some ⟨g, 0, none⟩), .pointer (some ⟨gr, 0, none⟩), .int .i64 id] w fun e w' => e = .returned (.bool true) ∧ Below w.heap.size w w' := by
  have hML := hR.2.2
  have hLO := rel_ok hR
  have hL16 := hLO.1
  have c1 := fun (w : World) (h : PoolIn w g b pc M) => pGetS w g b pc M h id r0 r1
  have c2 := fun (w : World) (h : RefIn w X gr pc L) => refGet25 w X gr pc L id h (by omega)
  have c3 := fun (w : World) (h : PoolIn w g b pc M) => pUpS w g b pc M h id r0 r1
  have c4 := fun (w : World) (h : PoolIn w g b pc M) => pDrainingS w g b pc M h id r0 r1
  rw [← rel_getM hR] at c2
  generalize getM M id = gm at *
  unfold memC at c2
  have c5 := fun (w : World) (h : PoolIn w g b pc M) => pTotal w g b pc M h hML
  have c6 := fun (w : World) (h : RefIn w X gr pc L) => refTotal25 w X gr pc L h hLO
  have c7 := fun (w : World) (h : PoolIn w g b pc M) => pHealthy w g b pc M h hML
  have c8 := fun (w : World) (h : RefIn w X gr pc L) => refHealthy25 w X gr pc L h hLO
  have c9 := fun (w : World) (h : PoolIn w g b pc M) => pQuorate w g b pc M h hML
  have cA := fun (w : World) (h : RefIn w X gr pc L) => refQuorate25 w X gr pc L h hLO
  rw [← rel_sum hR soAll] at c6
  rw [← rel_sum hR soUp] at c8
  rw [← rel_sum hR soAll, ← rel_sum hR soUp] at cA
  generalize quoB (sumW soUp M) (sumW soAll M) pc = qb at *
  generalize sumW soAll M = sa at *
  generalize sumW soUp M = su at *
  have hfz : decide (0 ≤ findZ L id) = (findF M id).isSome := by
    rcases rel_find hR id with ⟨h1, h2⟩ | ⟨k, j, m, h1, h2, _⟩
    · rw [h1, findZ_none h2]; rfl
    · rw [h1, findZ_some h2]; simp
  have cF := fun (w : World) (h : RefIn w X gr pc L) => refFind25 w X gr pc L id h (by omega)
  generalize findZ L id = fz at *
  generalize (findF M id).isSome = fb at *
  go_enter Try.func36, Try.ntmps36
  go_upto_region 2 with (go_at_call 19; refine (c1 w h).mono ?_; rintro e w1 ⟨rfl, hb1⟩)
  have hB := hb1.alloc hb1.size (.cells #[.int .i64 gm.id, .int .u32 gm.ad, .int .i64 gm.wt] 26)
  have hq1 := Blk.new w1 26 #[.int .i64 gm.id, .int .u32 gm.ad, .int .i64 gm.wt]
  generalize w1.alloc (.cells #[.int .i64 gm.id, .int .u32 gm.ad, .int .i64 gm.wt] 26) = w2 at *
  go_upto_region 3 with (go_at_call 105; refine (c2 w2 (hr.nx hB)).mono ?_; rintro e w3 ⟨rfl, hb3⟩)
  have hB3 := (hB.trans (hb3.mono hB.size)).alloc (Nat.le_trans hB.size hb3.size) (.cells #[.int .i64 gm.id, .int .u32 gm.ad, .int .i64 gm.wt, .bool gm.up, .bool gm.dr] 173)
  have hq2 := Blk.new w3 173 #[.int .i64 gm.id, .int .u32 gm.ad, .int .i64 gm.wt, .bool gm.up, .bool gm.dr]
  have hq1' := (hq1.below hb3 hq1.lt).alloc (.cells #[.int .i64 gm.id, .int .u32 gm.ad, .int .i64 gm.wt, .bool gm.up, .bool gm.dr] 173)
  clear hb3 hq1 hB hb1
  generalize w3.alloc (.cells #[.int .i64 gm.id, .int .u32 gm.ad, .int .i64 gm.wt, .bool gm.up, .bool gm.dr] 173) = w4 at *
  have ltq1 := hq1'.lt
  have ltq2 := hq2.lt
  have x0 : w4.cell? ⟨w1.heap.size, 0, none⟩ = some (.int .i64 gm.id) := hq1'.cellv 0 rfl
  have x1 : w4.cell? ⟨w1.heap.size, 1, none⟩ = some (.int .u32 gm.ad) := hq1'.cellv 1 rfl
  have x2 : w4.cell? ⟨w1.heap.size, 2, none⟩ = some (.int .i64 gm.wt) := hq1'.cellv 2 rfl
  have y0 : w4.cell? ⟨w3.heap.size, 0, none⟩ = some (.int .i64 gm.id) := hq2.cellv 0 rfl
  have y1 : w4.cell? ⟨w3.heap.size, 1, none⟩ = some (.int .u32 gm.ad) := hq2.cellv 1 rfl
  have y2 : w4.cell? ⟨w3.heap.size, 2, none⟩ = some (.int .i64 gm.wt) := hq2.cellv 2 rfl
  have y3 : w4.cell? ⟨w3.heap.size, 3, none⟩ = some (.bool gm.up) := hq2.cellv 3 rfl
  have y4 : w4.cell? ⟨w3.heap.size, 4, none⟩ = some (.bool gm.dr) := hq2.cellv 4 rfl
  have hP := h.nx hB3
  have hQ := hr.nx hB3
  clear c1 c2
  -- region 3: 0 1 2 3 4 5 6 7 8C 9 10 11 12 13 14 15C 16 17 18 19 20 21 22 23C 24 25 26 27 28 29 30C 31 32C 33 34 35 36 37C 38 39C 40 41 42 43 44C 45 46C 47 48 49 50 51C 52 53C 54C 55 56 57 58C 59 60C 61C 62 63
  try refine wp_region_noPanic ?_
  refine wp_region_lat (by kernel_rfl) ?_
  (refine lat_now 0 (by rfl) ?_ (by kernel_rfl) (fun _ _ _ h => h) ?_ ?_; rotate_left; (focus (intro wq hSw; have hrd : ∀ b o, b < w4.heap.size → wq.cell? ⟨b, o, none⟩ = w4.cell? ⟨b, o, none⟩ := (fun b o h => Below.cell hSw (p := ⟨b, o, none⟩) h); go_simp; try with_reducible rfl; done)); try simp only [Act.put, List.setIfInBounds_toArray, List.set_cons_zero, List.set_cons_succ])
  (refine lat_now 1 (by rfl) ?_ (by kernel_rfl) (fun _ _ _ h => h) ?_ ?_; rotate_left; (focus (intro wq hSw; have hrd : ∀ b o, b < w4.heap.size → wq.cell? ⟨b, o, none⟩ = w4.cell? ⟨b, o, none⟩ := (fun b o h => Below.cell hSw (p := ⟨b, o, none⟩) h); go_simp; try with_reducible rfl; done)); try simp only [Act.put, List.setIfInBounds_toArray, List.set_cons_zero, List.set_cons_succ])
  (refine lat_now 2 (by rfl) ?_ (by kernel_rfl) (fun _ _ _ h => h) ?_ ?_; rotate_left; (focus (intro wq hSw; have hrd : ∀ b o, b < w4.heap.size → wq.cell? ⟨b, o, none⟩ = w4.cell? ⟨b, o, none⟩ := (fun b o h => Below.cell hSw (p := ⟨b, o, none⟩) h); go_simp; try with_reducible rfl; done)); try simp only [Act.put, List.setIfInBounds_toArray, List.set_cons_zero, List.set_cons_succ])
  (refine lat_now 3 (by rfl) ?_ (by kernel_rfl) (fun _ _ _ h => h) ?_ ?_; rotate_left; (focus (intro wq hSw; have hrd : ∀ b o, b < w4.heap.size → wq.cell? ⟨b, o, none⟩ = w4.cell? ⟨b, o, none⟩ := (fun b o h => Below.cell hSw (p := ⟨b, o, none⟩) h); go_simp; try with_reducible rfl; done)); try simp only [Act.put, List.setIfInBounds_toArray, List.set_cons_zero, List.set_cons_succ])
  (refine lat_now 4 (by rfl) ?_ (by kernel_rfl) (fun _ _ _ h => h) ?_ ?_; rotate_left; (focus (intro wq hSw; have hrd : ∀ b o, b < w4.heap.size → wq.cell? ⟨b, o, none⟩ = w4.cell? ⟨b, o, none⟩ := (fun b o h => Below.cell hSw (p := ⟨b, o, none⟩) h); go_simp; try with_reducible rfl; done)); try simp only [Act.put, List.setIfInBounds_toArray, List.set_cons_zero, List.set_cons_succ])
  (refine lat_now 5 (by rfl) ?_ (by kernel_rfl) (fun _ _ _ h => h) ?_ ?_; rotate_left; (focus (intro wq hSw; have hrd : ∀ b o, b < w4.heap.size → wq.cell? ⟨b, o, none⟩ = w4.cell? ⟨b, o, none⟩ := (fun b o h => Below.cell hSw (p := ⟨b, o, none⟩) h); go_simp; try with_reducible rfl; done)); try simp only [Act.put, List.setIfInBounds_toArray, List.set_cons_zero, List.set_cons_succ])
  (refine lat_now 6 (by rfl) ?_ (by kernel_rfl) (fun _ _ _ h => h) ?_ ?_; rotate_left; (focus (intro wq hSw; have hrd : ∀ b o, b < w4.heap.size → wq.cell? ⟨b, o, none⟩ = w4.cell? ⟨b, o, none⟩ := (fun b o h => Below.cell hSw (p := ⟨b, o, none⟩) h); go_simp; try with_reducible rfl; done)); try simp only [Act.put, List.setIfInBounds_toArray, List.set_cons_zero, List.set_cons_succ])
  (refine lat_now 7 (by rfl) ?_ (by kernel_rfl) (fun _ _ _ h => h) ?_ ?_; rotate_left; (focus (intro wq hSw; have hrd : ∀ b o, b < w4.heap.size → wq.cell? ⟨b, o, none⟩ = w4.cell? ⟨b, o, none⟩ := (fun b o h => Below.cell hSw (p := ⟨b, o, none⟩) h); go_simp; try with_reducible rfl; done)); try simp only [Act.put, List.setIfInBounds_toArray, List.set_cons_zero, List.set_cons_succ])
  (refine lat_late 8 (by rfl) (.int .i64 fz) (by kernel_rfl) (fun _ _ _ h => h) (fun wq hSw => ⟨_, _, ?_, (cF wq (hQ.nx hSw))⟩) ?_; focus (go_simp; try with_reducible rfl; done); try simp only [Act.put, List.setIfInBounds_toArray, List.set_cons_zero, List.set_cons_succ])
  (refine lat_now 9 (by rfl) ?_ (by kernel_rfl) (fun _ _ _ h => h) ?_ ?_; rotate_left; (focus (intro wq hSw; have hrd : ∀ b o, b < w4.heap.size → wq.cell? ⟨b, o, none⟩ = w4.cell? ⟨b, o, none⟩ := (fun b o h => Below.cell hSw (p := ⟨b, o, none⟩) h); go_simp; try with_reducible rfl; done)); try simp only [Act.put, List.setIfInBounds_toArray, List.set_cons_zero, List.set_cons_succ])
  (refine lat_now 10 (by rfl) ?_ (by kernel_rfl) (fun _ _ _ h => h) ?_ ?_; rotate_left; (focus (intro wq hSw; have hrd : ∀ b o, b < w4.heap.size → wq.cell? ⟨b, o, none⟩ = w4.cell? ⟨b, o, none⟩ := (fun b o h => Below.cell hSw (p := ⟨b, o, none⟩) h); go_simp; try with_reducible rfl; done)); try simp only [Act.put, List.setIfInBounds_toArray, List.set_cons_zero, List.set_cons_succ])
  (refine lat_now 11 (by rfl) ?_ (by kernel_rfl) (fun _ _ _ h => h) ?_ ?_; rotate_left; (focus (intro wq hSw; have hrd : ∀ b o, b < w4.heap.size → wq.cell? ⟨b, o, none⟩ = w4.cell? ⟨b, o, none⟩ := (fun b o h => Below.cell hSw (p := ⟨b, o, none⟩) h); go_simp; try with_reducible rfl; done)); try simp only [Act.put, List.setIfInBounds_toArray, List.set_cons_zero, List.set_cons_succ])
  (refine lat_now 12 (by rfl) ?_ (by kernel_rfl) (fun _ _ _ h => h) ?_ ?_; rotate_left; (focus (intro wq hSw; have hrd : ∀ b o, b < w4.heap.size → wq.cell? ⟨b, o, none⟩ = w4.cell? ⟨b, o, none⟩ := (fun b o h => Below.cell hSw (p := ⟨b, o, none⟩) h); go_simp; try with_reducible rfl; done)); try simp only [Act.put, List.setIfInBounds_toArray, List.set_cons_zero, List.set_cons_succ])
  (refine lat_now 13 (by rfl) ?_ (by kernel_rfl) (fun _ _ _ h => h) ?_ ?_; rotate_left; (focus (intro wq hSw; have hrd : ∀ b o, b < w4.heap.size → wq.cell? ⟨b, o, none⟩ = w4.cell? ⟨b, o, none⟩ := (fun b o h => Below.cell hSw (p := ⟨b, o, none⟩) h); go_simp; try with_reducible rfl; done)); try simp only [Act.put, List.setIfInBounds_toArray, List.set_cons_zero, List.set_cons_succ])
  (refine lat_now 14 (by rfl) ?_ (by kernel_rfl) (fun _ _ _ h => h) ?_ ?_; rotate_left; (focus (intro wq hSw; have hrd : ∀ b o, b < w4.heap.size → wq.cell? ⟨b, o, none⟩ = w4.cell? ⟨b, o, none⟩ := (fun b o h => Below.cell hSw (p := ⟨b, o, none⟩) h); go_simp; try with_reducible rfl; done)); try simp only [Act.put, List.setIfInBounds_toArray, List.set_cons_zero, List.set_cons_succ])
  (refine lat_now 16 (by rfl) ?_ (by kernel_rfl) (fun _ _ _ h => h) ?_ ?_; rotate_left; (focus (intro wq hSw; have hrd : ∀ b o, b < w4.heap.size → wq.cell? ⟨b, o, none⟩ = w4.cell? ⟨b, o, none⟩ := (fun b o h => Below.cell hSw (p := ⟨b, o, none⟩) h); go_simp; try with_reducible rfl; done)); try simp only [Act.put, List.setIfInBounds_toArray, List.set_cons_zero, List.set_cons_succ])
  (refine lat_now 17 (by rfl) ?_ (by kernel_rfl) (fun _ _ _ h => h) ?_ ?_; rotate_left; (focus (intro wq hSw; have hrd : ∀ b o, b < w4.heap.size → wq.cell? ⟨b, o, none⟩ = w4.cell? ⟨b, o, none⟩ := (fun b o h => Below.cell hSw (p := ⟨b, o, none⟩) h); go_simp; try with_reducible rfl; done)); try simp only [Act.put, List.setIfInBounds_toArray, List.set_cons_zero, List.set_cons_succ])
  (refine lat_late 15 (by rfl) (.bool gm.up) (by kernel_rfl) (fun _ _ _ h => h) (fun wq hSw => ⟨_, _, ?_, (c3 wq (hP.nx hSw))⟩) ?_; focus (go_simp; try with_reducible rfl; done); try simp only [Act.put, List.setIfInBounds_toArray, List.set_cons_zero, List.set_cons_succ])
  (refine lat_now 18 (by rfl) ?_ (by kernel_rfl) (fun _ _ _ h => h) ?_ ?_; rotate_left; (focus (intro wq hSw; have hrd : ∀ b o, b < w4.heap.size → wq.cell? ⟨b, o, none⟩ = w4.cell? ⟨b, o, none⟩ := (fun b o h => Below.cell hSw (p := ⟨b, o, none⟩) h); go_simp; try with_reducible rfl; done)); try simp only [Act.put, List.setIfInBounds_toArray, List.set_cons_zero, List.set_cons_succ])
  (refine lat_now 19 (by rfl) ?_ (by kernel_rfl) (fun _ _ _ h => h) ?_ ?_; rotate_left; (focus (intro wq hSw; have hrd : ∀ b o, b < w4.heap.size → wq.cell? ⟨b, o, none⟩ = w4.cell? ⟨b, o, none⟩ := (fun b o h => Below.cell hSw (p := ⟨b, o, none⟩) h); go_simp; try with_reducible rfl; done)); try simp only [Act.put, List.setIfInBounds_toArray, List.set_cons_zero, List.set_cons_succ])
  (refine lat_now 20 (by rfl) ?_ (by kernel_rfl) (fun _ _ _ h => h) ?_ ?_; rotate_left; (focus (intro wq hSw; have hrd : ∀ b o, b < w4.heap.size → wq.cell? ⟨b, o, none⟩ = w4.cell? ⟨b, o, none⟩ := (fun b o h => Below.cell hSw (p := ⟨b, o, none⟩) h); go_simp; try with_reducible rfl; done)); try simp only [Act.put, List.setIfInBounds_toArray, List.set_cons_zero, List.set_cons_succ])
  (refine lat_now 21 (by rfl) ?_ (by kernel_rfl) (fun _ _ _ h => h) ?_ ?_; rotate_left; (focus (intro wq hSw; have hrd : ∀ b o, b < w4.heap.size → wq.cell? ⟨b, o, none⟩ = w4.cell? ⟨b, o, none⟩ := (fun b o h => Below.cell hSw (p := ⟨b, o, none⟩) h); go_simp; try with_reducible rfl; done)); try simp only [Act.put, List.setIfInBounds_toArray, List.set_cons_zero, List.set_cons_succ])
  (refine lat_now 22 (by rfl) ?_ (by kernel_rfl) (fun _ _ _ h => h) ?_ ?_; rotate_left; (focus (intro wq hSw; have hrd : ∀ b o, b < w4.heap.size → wq.cell? ⟨b, o, none⟩ = w4.cell? ⟨b, o, none⟩ := (fun b o h => Below.cell hSw (p := ⟨b, o, none⟩) h); go_simp; try with_reducible rfl; done)); try simp only [Act.put, List.setIfInBounds_toArray, List.set_cons_zero, List.set_cons_succ])
  (refine lat_now 24 (by rfl) ?_ (by kernel_rfl) (fun _ _ _ h => h) ?_ ?_; rotate_left; (focus (intro wq hSw; have hrd : ∀ b o, b < w4.heap.size → wq.cell? ⟨b, o, none⟩ = w4.cell? ⟨b, o, none⟩ := (fun b o h => Below.cell hSw (p := ⟨b, o, none⟩) h); go_simp; try with_reducible rfl; done)); try simp only [Act.put, List.setIfInBounds_toArray, List.set_cons_zero, List.set_cons_succ])
  (refine lat_now 25 (by rfl) ?_ (by kernel_rfl) (fun _ _ _ h => h) ?_ ?_; rotate_left; (focus (intro wq hSw; have hrd : ∀ b o, b < w4.heap.size → wq.cell? ⟨b, o, none⟩ = w4.cell? ⟨b, o, none⟩ := (fun b o h => Below.cell hSw (p := ⟨b, o, none⟩) h); go_simp; try with_reducible rfl; done)); try simp only [Act.put, List.setIfInBounds_toArray, List.set_cons_zero, List.set_cons_succ])
  (refine lat_late 23 (by rfl) (.bool gm.dr) (by kernel_rfl) (fun _ _ _ h => h) (fun wq hSw => ⟨_, _, ?_, (c4 wq (hP.nx hSw))⟩) ?_; focus (go_simp; try with_reducible rfl; done); try simp only [Act.put, List.setIfInBounds_toArray, List.set_cons_zero, List.set_cons_succ])
  (refine lat_now 26 (by rfl) ?_ (by kernel_rfl) (fun _ _ _ h => h) ?_ ?_; rotate_left; (focus (intro wq hSw; have hrd : ∀ b o, b < w4.heap.size → wq.cell? ⟨b, o, none⟩ = w4.cell? ⟨b, o, none⟩ := (fun b o h => Below.cell hSw (p := ⟨b, o, none⟩) h); go_simp; try with_reducible rfl; done)); try simp only [Act.put, List.setIfInBounds_toArray, List.set_cons_zero, List.set_cons_succ])
  (refine lat_now 27 (by rfl) ?_ (by kernel_rfl) (fun _ _ _ h => h) ?_ ?_; rotate_left; (focus (intro wq hSw; have hrd : ∀ b o, b < w4.heap.size → wq.cell? ⟨b, o, none⟩ = w4.cell? ⟨b, o, none⟩ := (fun b o h => Below.cell hSw (p := ⟨b, o, none⟩) h); go_simp; try with_reducible rfl; done)); try simp only [Act.put, List.setIfInBounds_toArray, List.set_cons_zero, List.set_cons_succ])
  (refine lat_now 28 (by rfl) ?_ (by kernel_rfl) (fun _ _ _ h => h) ?_ ?_; rotate_left; (focus (intro wq hSw; have hrd : ∀ b o, b < w4.heap.size → wq.cell? ⟨b, o, none⟩ = w4.cell? ⟨b, o, none⟩ := (fun b o h => Below.cell hSw (p := ⟨b, o, none⟩) h); go_simp; try with_reducible rfl; done)); try simp only [Act.put, List.setIfInBounds_toArray, List.set_cons_zero, List.set_cons_succ])
  (refine lat_now 29 (by rfl) ?_ (by kernel_rfl) (fun _ _ _ h => h) ?_ ?_; rotate_left; (focus (intro wq hSw; have hrd : ∀ b o, b < w4.heap.size → wq.cell? ⟨b, o, none⟩ = w4.cell? ⟨b, o, none⟩ := (fun b o h => Below.cell hSw (p := ⟨b, o, none⟩) h); go_simp; try with_reducible rfl; done)); try simp only [Act.put, List.setIfInBounds_toArray, List.set_cons_zero, List.set_cons_succ])
  (refine lat_now 31 (by rfl) ?_ (by kernel_rfl) (fun _ _ _ h => h) ?_ ?_; rotate_left; (focus (intro wq hSw; have hrd : ∀ b o, b < w4.heap.size → wq.cell? ⟨b, o, none⟩ = w4.cell? ⟨b, o, none⟩ := (fun b o h => Below.cell hSw (p := ⟨b, o, none⟩) h); go_simp; try with_reducible rfl; done)); try simp only [Act.put, List.setIfInBounds_toArray, List.set_cons_zero, List.set_cons_succ])
  (refine lat_late 30 (by rfl) (.int .i64 sa) (by kernel_rfl) (fun _ _ _ h => h) (fun wq hSw => ⟨_, _, ?_, (c5 wq (hP.nx hSw))⟩) ?_; focus (go_simp; try with_reducible rfl; done); try simp only [Act.put, List.setIfInBounds_toArray, List.set_cons_zero, List.set_cons_succ])
  (refine lat_late 32 (by rfl) (.int .i64 sa) (by kernel_rfl) (fun _ _ _ h => h) (fun wq hSw => ⟨_, _, ?_, (c6 wq (hQ.nx hSw))⟩) ?_; focus (go_simp; try with_reducible rfl; done); try simp only [Act.put, List.setIfInBounds_toArray, List.set_cons_zero, List.set_cons_succ])
  (refine lat_now 33 (by rfl) ?_ (by kernel_rfl) (fun _ _ _ h => h) ?_ ?_; rotate_left; (focus (intro wq hSw; have hrd : ∀ b o, b < w4.heap.size → wq.cell? ⟨b, o, none⟩ = w4.cell? ⟨b, o, none⟩ := (fun b o h => Below.cell hSw (p := ⟨b, o, none⟩) h); go_simp; try with_reducible rfl; done)); try simp only [Act.put, List.setIfInBounds_toArray, List.set_cons_zero, List.set_cons_succ])
  (refine lat_now 34 (by rfl) ?_ (by kernel_rfl) (fun _ _ _ h => h) ?_ ?_; rotate_left; (focus (intro wq hSw; have hrd : ∀ b o, b < w4.heap.size → wq.cell? ⟨b, o, none⟩ = w4.cell? ⟨b, o, none⟩ := (fun b o h => Below.cell hSw (p := ⟨b, o, none⟩) h); go_simp; try with_reducible rfl; done)); try simp only [Act.put, List.setIfInBounds_toArray, List.set_cons_zero, List.set_cons_succ])
  (refine lat_now 35 (by rfl) ?_ (by kernel_rfl) (fun _ _ _ h => h) ?_ ?_; rotate_left; (focus (intro wq hSw; have hrd : ∀ b o, b < w4.heap.size → wq.cell? ⟨b, o, none⟩ = w4.cell? ⟨b, o, none⟩ := (fun b o h => Below.cell hSw (p := ⟨b, o, none⟩) h); go_simp; try with_reducible rfl; done)); try simp only [Act.put, List.setIfInBounds_toArray, List.set_cons_zero, List.set_cons_succ])
  (refine lat_now 36 (by rfl) ?_ (by kernel_rfl) (fun _ _ _ h => h) ?_ ?_; rotate_left; (focus (intro wq hSw; have hrd : ∀ b o, b < w4.heap.size → wq.cell? ⟨b, o, none⟩ = w4.cell? ⟨b, o, none⟩ := (fun b o h => Below.cell hSw (p := ⟨b, o, none⟩) h); go_simp; try with_reducible rfl; done)); try simp only [Act.put, List.setIfInBounds_toArray, List.set_cons_zero, List.set_cons_succ])
  (refine lat_now 38 (by rfl) ?_ (by kernel_rfl) (fun _ _ _ h => h) ?_ ?_; rotate_left; (focus (intro wq hSw; have hrd : ∀ b o, b < w4.heap.size → wq.cell? ⟨b, o, none⟩ = w4.cell? ⟨b, o, none⟩ := (fun b o h => Below.cell hSw (p := ⟨b, o, none⟩) h); go_simp; try with_reducible rfl; done)); try simp only [Act.put, List.setIfInBounds_toArray, List.set_cons_zero, List.set_cons_succ])
  (refine lat_late 37 (by rfl) (.int .i64 su) (by kernel_rfl) (fun _ _ _ h => h) (fun wq hSw => ⟨_, _, ?_, (c7 wq (hP.nx hSw))⟩) ?_; focus (go_simp; try with_reducible rfl; done); try simp only [Act.put, List.setIfInBounds_toArray, List.set_cons_zero, List.set_cons_succ])
  (refine lat_late 39 (by rfl) (.int .i64 su) (by kernel_rfl) (fun _ _ _ h => h) (fun wq hSw => ⟨_, _, ?_, (c8 wq (hQ.nx hSw))⟩) ?_; focus (go_simp; try with_reducible rfl; done); try simp only [Act.put, List.setIfInBounds_toArray, List.set_cons_zero, List.set_cons_succ])
  (refine lat_now 40 (by rfl) ?_ (by kernel_rfl) (fun _ _ _ h => h) ?_ ?_; rotate_left; (focus (intro wq hSw; have hrd : ∀ b o, b < w4.heap.size → wq.cell? ⟨b, o, none⟩ = w4.cell? ⟨b, o, none⟩ := (fun b o h => Below.cell hSw (p := ⟨b, o, none⟩) h); go_simp; try with_reducible rfl; done)); try simp only [Act.put, List.setIfInBounds_toArray, List.set_cons_zero, List.set_cons_succ])
  (refine lat_now 41 (by rfl) ?_ (by kernel_rfl) (fun _ _ _ h => h) ?_ ?_; rotate_left; (focus (intro wq hSw; have hrd : ∀ b o, b < w4.heap.size → wq.cell? ⟨b, o, none⟩ = w4.cell? ⟨b, o, none⟩ := (fun b o h => Below.cell hSw (p := ⟨b, o, none⟩) h); go_simp; try with_reducible rfl; done)); try simp only [Act.put, List.setIfInBounds_toArray, List.set_cons_zero, List.set_cons_succ])
  (refine lat_now 42 (by rfl) ?_ (by kernel_rfl) (fun _ _ _ h => h) ?_ ?_; rotate_left; (focus (intro wq hSw; have hrd : ∀ b o, b < w4.heap.size → wq.cell? ⟨b, o, none⟩ = w4.cell? ⟨b, o, none⟩ := (fun b o h => Below.cell hSw (p := ⟨b, o, none⟩) h); go_simp; try with_reducible rfl; done)); try simp only [Act.put, List.setIfInBounds_toArray, List.set_cons_zero, List.set_cons_succ])
  (refine lat_now 43 (by rfl) ?_ (by kernel_rfl) (fun _ _ _ h => h) ?_ ?_; rotate_left; (focus (intro wq hSw; have hrd : ∀ b o, b < w4.heap.size → wq.cell? ⟨b, o, none⟩ = w4.cell? ⟨b, o, none⟩ := (fun b o h => Below.cell hSw (p := ⟨b, o, none⟩) h); go_simp; try with_reducible rfl; done)); try simp only [Act.put, List.setIfInBounds_toArray, List.set_cons_zero, List.set_cons_succ])
  (refine lat_now 45 (by rfl) ?_ (by kernel_rfl) (fun _ _ _ h => h) ?_ ?_; rotate_left; (focus (intro wq hSw; have hrd : ∀ b o, b < w4.heap.size → wq.cell? ⟨b, o, none⟩ = w4.cell? ⟨b, o, none⟩ := (fun b o h => Below.cell hSw (p := ⟨b, o, none⟩) h); go_simp; try with_reducible rfl; done)); try simp only [Act.put, List.setIfInBounds_toArray, List.set_cons_zero, List.set_cons_succ])
  (refine lat_late 44 (by rfl) (.bool qb) (by kernel_rfl) (fun _ _ _ h => h) (fun wq hSw => ⟨_, _, ?_, (c9 wq (hP.nx hSw))⟩) ?_; focus (go_simp; try with_reducible rfl; done); try simp only [Act.put, List.setIfInBounds_toArray, List.set_cons_zero, List.set_cons_succ])
  (refine lat_late 46 (by rfl) (.bool qb) (by kernel_rfl) (fun _ _ _ h => h) (fun wq hSw => ⟨_, _, ?_, (cA wq (hQ.nx hSw))⟩) ?_; focus (go_simp; try with_reducible rfl; done); try simp only [Act.put, List.setIfInBounds_toArray, List.set_cons_zero, List.set_cons_succ])
  (refine lat_now 47 (by rfl) ?_ (by kernel_rfl) (fun _ _ _ h => h) ?_ ?_; rotate_left; (focus (intro wq hSw; have hrd : ∀ b o, b < w4.heap.size → wq.cell? ⟨b, o, none⟩ = w4.cell? ⟨b, o, none⟩ := (fun b o h => Below.cell hSw (p := ⟨b, o, none⟩) h); go_simp; try with_reducible rfl; done)); try simp only [Act.put, List.setIfInBounds_toArray, List.set_cons_zero, List.set_cons_succ])
  (refine lat_now 48 (by rfl) ?_ (by kernel_rfl) (fun _ _ _ h => h) ?_ ?_; rotate_left; (focus (intro wq hSw; have hrd : ∀ b o, b < w4.heap.size → wq.cell? ⟨b, o, none⟩ = w4.cell? ⟨b, o, none⟩ := (fun b o h => Below.cell hSw (p := ⟨b, o, none⟩) h); go_simp; try with_reducible rfl; done)); try simp only [Act.put, List.setIfInBounds_toArray, List.set_cons_zero, List.set_cons_succ])
  (refine lat_now 49 (by rfl) ?_ (by kernel_rfl) (fun _ _ _ h => h) ?_ ?_; rotate_left; (focus (intro wq hSw; have hrd : ∀ b o, b < w4.heap.size → wq.cell? ⟨b, o, none⟩ = w4.cell? ⟨b, o, none⟩ := (fun b o h => Below.cell hSw (p := ⟨b, o, none⟩) h); go_simp; try with_reducible rfl; done)); try simp only [Act.put, List.setIfInBounds_toArray, List.set_cons_zero, List.set_cons_succ])
  (refine lat_now 50 (by rfl) ?_ (by kernel_rfl) (fun _ _ _ h => h) ?_ ?_; rotate_left; (focus (intro wq hSw; have hrd : ∀ b o, b < w4.heap.size → wq.cell? ⟨b, o, none⟩ = w4.cell? ⟨b, o, none⟩ := (fun b o h => Below.cell hSw (p := ⟨b, o, none⟩) h); go_simp; try with_reducible rfl; done)); try simp only [Act.put, List.setIfInBounds_toArray, List.set_cons_zero, List.set_cons_succ])
  (refine lat_now 52 (by rfl) ?_ (by kernel_rfl) (fun _ _ _ h => h) ?_ ?_; rotate_left; (focus (intro wq hSw; have hrd : ∀ b o, b < w4.heap.size → wq.cell? ⟨b, o, none⟩ = w4.cell? ⟨b, o, none⟩ := (fun b o h => Below.cell hSw (p := ⟨b, o, none⟩) h); go_simp; try with_reducible rfl; done)); try simp only [Act.put, List.setIfInBounds_toArray, List.set_cons_zero, List.set_cons_succ])
  skip
  refine lat_call 51 (by rfl) (by kernel_rfl) (by rfl) (fun a0 ha0 KQ hKQ => ?_)
  go_simp
  refine (pEligible a0 g b pc M L (hP.nx ha0) hML hR.1 hR.2.1).mono ?_
  rintro e b0 ⟨v0, rfl, hv0, hb0⟩
  obtain ⟨A0, k0, rfl, _, _, hs0⟩ := hv0.seen (Nat.le_refl _)
  have hP := (hP.nx ha0).nx hb0
  have hQ := (hQ.nx ha0).nx hb0
  refine hKQ.out _ _ hb0 ?_
  clear hKQ KQ
  try simp only [Act.put, List.setIfInBounds_toArray, List.set_cons_zero, List.set_cons_succ]
  refine lat_call 53 (by rfl) (by kernel_rfl) (by rfl) (fun c0 hc0 KQ hKQ => ?_)
  go_simp
  refine (refEligible25 c0 X gr pc L (hQ.nx hc0) hLO).mono ?_
  rintro e d0 ⟨v'0, rfl, hv'0, hd0⟩
  obtain ⟨A'0, k'0, rfl, _, _, hs'0⟩ := hv'0.seen (Nat.le_refl _)
  have hP := (hP.nx hc0).nx hd0
  have hQ := (hQ.nx hc0).nx hd0
  have hs0 := (hs0.below hc0 fun i q => q.2).below (B := c0.heap.size) hd0 fun i q => Nat.lt_of_lt_of_le q.2 (Below.size hc0)
  refine hKQ.out _ _ hd0 ?_
  clear hKQ KQ
  try simp only [Act.put, List.setIfInBounds_toArray, List.set_cons_zero, List.set_cons_succ]
  have hsame0 : ∀ wq, Lat d0 wq → Calls Try.prog 110 #[.slice A0 (selB soUse L).length k0, .slice A'0 (selB soUse L).length k'0] wq fun e w'' => e = .returned (.bool true) ∧ Lat wq w'' := by
    intro wq hSw
    have := same25_any wq _ _ A0 _ k0 (selB soUse L) A'0 _ k'0 (selB soUse L) (hs0.below (B := d0.heap.size) hSw fun i q => Nat.lt_of_lt_of_le q.2 (Nat.le_trans (Below.size hc0) (Below.size hd0))) (hs'0.below (B := d0.heap.size) hSw fun i q => q.2) (fun i q => Nat.lt_of_lt_of_le q.2 (Nat.le_trans (Below.size hc0) (Nat.le_trans (Below.size hd0) (Below.size hSw)))) (fun i q => Nat.lt_of_lt_of_le q.2 (Below.size hSw)) (by have := selB_len soUse L; omega)
    exact this.mono fun e w2 q => ⟨by simpa using q.1, q.2⟩
  have hB3 := hB3.trans (Below.mono ha0 hB3.size)
  have hB3 := hB3.trans (Below.mono hb0 hB3.size)
  have hB3 := hB3.trans (Below.mono hc0 hB3.size)
  have hB3 := hB3.trans (Below.mono hd0 hB3.size)
  (refine lat_late 54 (by rfl) (.bool true) (by kernel_rfl) (fun _ _ _ h => h) (fun wq hSw => ⟨_, _, ?_, (hsame0 wq hSw)⟩) ?_; focus (go_simp; try with_reducible rfl; done); try simp only [Act.put, List.setIfInBounds_toArray, List.set_cons_zero, List.set_cons_succ])
  (refine lat_now 55 (by rfl) ?_ (by kernel_rfl) (fun _ _ _ h => h) ?_ ?_; rotate_left; (focus (intro wq hSw; have hrd : ∀ b o, b < d0.heap.size → wq.cell? ⟨b, o, none⟩ = d0.cell? ⟨b, o, none⟩ := (fun b o h => Below.cell hSw (p := ⟨b, o, none⟩) h); go_simp; try with_reducible rfl; done)); try simp only [Act.put, List.setIfInBounds_toArray, List.set_cons_zero, List.set_cons_succ])
  (refine lat_now 56 (by rfl) ?_ (by kernel_rfl) (fun _ _ _ h => h) ?_ ?_; rotate_left; (focus (intro wq hSw; have hrd : ∀ b o, b < d0.heap.size → wq.cell? ⟨b, o, none⟩ = d0.cell? ⟨b, o, none⟩ := (fun b o h => Below.cell hSw (p := ⟨b, o, none⟩) h); go_simp; try with_reducible rfl; done)); try simp only [Act.put, List.setIfInBounds_toArray, List.set_cons_zero, List.set_cons_succ])
  (refine lat_now 57 (by rfl) ?_ (by kernel_rfl) (fun _ _ _ h => h) ?_ ?_; rotate_left; (focus (intro wq hSw; have hrd : ∀ b o, b < d0.heap.size → wq.cell? ⟨b, o, none⟩ = d0.cell? ⟨b, o, none⟩ := (fun b o h => Below.cell hSw (p := ⟨b, o, none⟩) h); go_simp; try with_reducible rfl; done)); try simp only [Act.put, List.setIfInBounds_toArray, List.set_cons_zero, List.set_cons_succ])
  (refine lat_now 59 (by rfl) ?_ (by kernel_rfl) (fun _ _ _ h => h) ?_ ?_; rotate_left; (focus (intro wq hSw; have hrd : ∀ b o, b < d0.heap.size → wq.cell? ⟨b, o, none⟩ = d0.cell? ⟨b, o, none⟩ := (fun b o h => Below.cell hSw (p := ⟨b, o, none⟩) h); go_simp; try with_reducible rfl; done)); try simp only [Act.put, List.setIfInBounds_toArray, List.set_cons_zero, List.set_cons_succ])
  refine lat_call 58 (by rfl) (by kernel_rfl) (by rfl) (fun a1 ha1 KQ hKQ => ?_)
  go_simp
  refine (pAll a1 g b pc M L (hP.nx ha1) hML hR.1 hR.2.1).mono ?_
  rintro e b1 ⟨v1, rfl, hv1, hb1⟩
  obtain ⟨A1, k1, rfl, _, _, hs1⟩ := hv1.seen (Nat.le_refl _)
  have hP := (hP.nx ha1).nx hb1
  have hQ := (hQ.nx ha1).nx hb1
  refine hKQ.out _ _ hb1 ?_
  clear hKQ KQ
  try simp only [Act.put, List.setIfInBounds_toArray, List.set_cons_zero, List.set_cons_succ]
  refine lat_call 60 (by rfl) (by kernel_rfl) (by rfl) (fun c1 hc1 KQ hKQ => ?_)
  go_simp
  refine (refAll25 c1 X gr pc L (hQ.nx hc1) hLO).mono ?_
  rintro e d1 ⟨v'1, rfl, hv'1, hd1⟩
  obtain ⟨A'1, k'1, rfl, _, _, hs'1⟩ := hv'1.seen (Nat.le_refl _)
  have hP := (hP.nx hc1).nx hd1
  have hQ := (hQ.nx hc1).nx hd1
  have hs1 := (hs1.below hc1 fun i q => q.2).below (B := c1.heap.size) hd1 fun i q => Nat.lt_of_lt_of_le q.2 (Below.size hc1)
  refine hKQ.out _ _ hd1 ?_
  clear hKQ KQ
  try simp only [Act.put, List.setIfInBounds_toArray, List.set_cons_zero, List.set_cons_succ]
  have hsame1 : ∀ wq, Lat d1 wq → Calls Try.prog 110 #[.slice A1 (selB soAll L).length k1, .slice A'1 (selB soAll L).length k'1] wq fun e w'' => e = .returned (.bool true) ∧ Lat wq w'' := by
    intro wq hSw
    have := same25_any wq _ _ A1 _ k1 (selB soAll L) A'1 _ k'1 (selB soAll L) (hs1.below (B := d1.heap.size) hSw fun i q => Nat.lt_of_lt_of_le q.2 (Nat.le_trans (Below.size hc1) (Below.size hd1))) (hs'1.below (B := d1.heap.size) hSw fun i q => q.2) (fun i q => Nat.lt_of_lt_of_le q.2 (Nat.le_trans (Below.size hc1) (Nat.le_trans (Below.size hd1) (Below.size hSw)))) (fun i q => Nat.lt_of_lt_of_le q.2 (Below.size hSw)) (by have := selB_len soAll L; omega)
    exact this.mono fun e w2 q => ⟨by simpa using q.1, q.2⟩
  have hB3 := hB3.trans (Below.mono ha1 hB3.size)
  have hB3 := hB3.trans (Below.mono hb1 hB3.size)
  have hB3 := hB3.trans (Below.mono hc1 hB3.size)
  have hB3 := hB3.trans (Below.mono hd1 hB3.size)
  (refine lat_late 61 (by rfl) (.bool true) (by kernel_rfl) (fun _ _ _ h => h) (fun wq hSw => ⟨_, _, ?_, (hsame1 wq hSw)⟩) ?_; focus (go_simp; try with_reducible rfl; done); try simp only [Act.put, List.setIfInBounds_toArray, List.set_cons_zero, List.set_cons_succ])
  (refine lat_now 62 (by rfl) ?_ (by kernel_rfl) (fun _ _ _ h => h) ?_ ?_; rotate_left; (focus (intro wq hSw; have hrd : ∀ b o, b < d1.heap.size → wq.cell? ⟨b, o, none⟩ = d1.cell? ⟨b, o, none⟩ := (fun b o h => Below.cell hSw (p := ⟨b, o, none⟩) h); go_simp; try with_reducible rfl; done)); try simp only [Act.put, List.setIfInBounds_toArray, List.set_cons_zero, List.set_cons_succ])
  (refine lat_now 63 (by rfl) ?_ (by kernel_rfl) (fun _ _ _ h => h) ?_ ?_; rotate_left; (focus (intro wq hSw; have hrd : ∀ b o, b < d1.heap.size → wq.cell? ⟨b, o, none⟩ = d1.cell? ⟨b, o, none⟩ := (fun b o h => Below.cell hSw (p := ⟨b, o, none⟩) h); go_simp; try with_reducible rfl; done)); try simp only [Act.put, List.setIfInBounds_toArray, List.set_cons_zero, List.set_cons_succ])
  refine lat_done (by kernel_rfl) (fun wz hz => ?_) _
  try refine NoPanic.normal ?_
  go_wp2_with fail
  go_ret
  exact ⟨rfl, hB3.trans (Below.mono hz hB3.size)⟩
end Go.Proofs.Ytejgekoinbdhjaa
