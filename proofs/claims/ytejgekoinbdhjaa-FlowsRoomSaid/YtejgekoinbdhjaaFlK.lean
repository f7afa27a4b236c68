/- flows: sweep, Purge, Expire. -/
import Derived.Test.YtejgekoinbdhjaaFlJ
namespace Go.Proofs.Ytejgekoinbdhjaa
set_option linter.unusedVariables false
open Go Go.RowKit Go.Maps

def soB (b : Int) (x : EnV) : Bool := x.be == b
def soE (t idl : Int) (x : EnV) : Bool := decide (x.la < t - idl)
set_option maxRecDepth 100000 in
theorem soPurge (w : World) (k cb : Nat) (x : EnV) (b n : Nat) (z : Int) (hk : Blk w k 177 (lnkC x b n)) (hc : Blk w cb 3 #[.int .i64 z]) :
    Calls Try.prog 121 #[.pointer (some ⟨k, 0, none⟩), .pointer (some ⟨cb, 0, none⟩)] w fun e w' => e = .returned (.bool (soB z x)) ∧ Below w.heap.size w w' := by
  have x5 : w.cell? ⟨k, 5, none⟩ = some (.int .i64 x.be) := hk.cellv 5 rfl
  have c0 : w.cell? ⟨cb, 0, none⟩ = some (.int .i64 z) := hc.cellv 0 rfl
  have ltk := hk.lt
  have ltc := hc.lt
  go_enter Try.func121, Try.ntmps121
  go_upto_region 1 with (fail)
  -- region 1: 0 1 2 3 4 5 6 7
  try refine wp_region_noPanic ?_
  have hs1r : Below w.heap.size w w.drew := (Below.refl _ _).drew
  refine wp_region_held_drew (S := fun w' => Below w.heap.size w w') (by kernel_rfl) hs1r (fun _ => ?_)
  (refine held_takeA 0 (by rfl) ?_ (by kernel_rfl) (fun _ _ _ h => h) hs1r ?_ ?_; rotate_left; (focus (intro wq hSw; have hrd : ∀ b o, b < w.heap.size → wq.cell? ⟨b, o, none⟩ = w.cell? ⟨b, o, none⟩ := (fun b o h => hSw.cell (p := ⟨b, o, none⟩) h); go_simp; try with_reducible rfl; done)); try simp only [Act.put, List.setIfInBounds_toArray, List.set_cons_zero, List.set_cons_succ])
  (refine held_takeA 1 (by rfl) ?_ (by kernel_rfl) (fun _ _ _ h => h) hs1r ?_ ?_; rotate_left; (focus (intro wq hSw; have hrd : ∀ b o, b < w.heap.size → wq.cell? ⟨b, o, none⟩ = w.cell? ⟨b, o, none⟩ := (fun b o h => hSw.cell (p := ⟨b, o, none⟩) h); go_simp; try with_reducible rfl; done)); try simp only [Act.put, List.setIfInBounds_toArray, List.set_cons_zero, List.set_cons_succ])
  (refine held_takeA 2 (by rfl) ?_ (by kernel_rfl) (fun _ _ _ h => h) hs1r ?_ ?_; rotate_left; (focus (intro wq hSw; have hrd : ∀ b o, b < w.heap.size → wq.cell? ⟨b, o, none⟩ = w.cell? ⟨b, o, none⟩ := (fun b o h => hSw.cell (p := ⟨b, o, none⟩) h); go_simp; try with_reducible rfl; done)); try simp only [Act.put, List.setIfInBounds_toArray, List.set_cons_zero, List.set_cons_succ])
  (refine held_takeA 3 (by rfl) ?_ (by kernel_rfl) (fun _ _ _ h => h) hs1r ?_ ?_; rotate_left; (focus (intro wq hSw; have hrd : ∀ b o, b < w.heap.size → wq.cell? ⟨b, o, none⟩ = w.cell? ⟨b, o, none⟩ := (fun b o h => hSw.cell (p := ⟨b, o, none⟩) h); go_simp; try with_reducible rfl; done)); try simp only [Act.put, List.setIfInBounds_toArray, List.set_cons_zero, List.set_cons_succ])
  (refine held_takeA 4 (by rfl) ?_ (by kernel_rfl) (fun _ _ _ h => h) hs1r ?_ ?_; rotate_left; (focus (intro wq hSw; have hrd : ∀ b o, b < w.heap.size → wq.cell? ⟨b, o, none⟩ = w.cell? ⟨b, o, none⟩ := (fun b o h => hSw.cell (p := ⟨b, o, none⟩) h); go_simp; try with_reducible rfl; done)); try simp only [Act.put, List.setIfInBounds_toArray, List.set_cons_zero, List.set_cons_succ])
  (refine held_takeA 5 (by rfl) ?_ (by kernel_rfl) (fun _ _ _ h => h) hs1r ?_ ?_; rotate_left; (focus (intro wq hSw; have hrd : ∀ b o, b < w.heap.size → wq.cell? ⟨b, o, none⟩ = w.cell? ⟨b, o, none⟩ := (fun b o h => hSw.cell (p := ⟨b, o, none⟩) h); go_simp; try with_reducible rfl; done)); try simp only [Act.put, List.setIfInBounds_toArray, List.set_cons_zero, List.set_cons_succ])
  (refine held_takeA 6 (by rfl) ?_ (by kernel_rfl) (fun _ _ _ h => h) hs1r ?_ ?_; rotate_left; (focus (intro wq hSw; have hrd : ∀ b o, b < w.heap.size → wq.cell? ⟨b, o, none⟩ = w.cell? ⟨b, o, none⟩ := (fun b o h => hSw.cell (p := ⟨b, o, none⟩) h); go_simp; try with_reducible rfl; done)); try simp only [Act.put, List.setIfInBounds_toArray, List.set_cons_zero, List.set_cons_succ])
  (refine held_takeA 7 (by rfl) ?_ (by kernel_rfl) (fun _ _ _ h => h) hs1r ?_ ?_; rotate_left; (focus (intro wq hSw; have hrd : ∀ b o, b < w.heap.size → wq.cell? ⟨b, o, none⟩ = w.cell? ⟨b, o, none⟩ := (fun b o h => hSw.cell (p := ⟨b, o, none⟩) h); go_simp; try with_reducible rfl; done)); try simp only [Act.put, List.setIfInBounds_toArray, List.set_cons_zero, List.set_cons_succ])
  refine wpAnyH_done (by kernel_rfl) ?_ _
  try refine NoPanic.normal ?_
  go_wp2_with fail
  go_ret
  exact ⟨rfl, (Below.refl _ _).drew⟩
set_option maxRecDepth 100000 in
theorem soExpire (w : World) (k tb g : Nat) (x : EnV) (b n : Nat) (ro idl now : Int) (m e : Nat) (ca we : Int) (hk : Blk w k 177 (lnkC x b n)) (hc : Blk w tb 59 #[.pointer (some ⟨g, 0, none⟩)]) (hg : Blk w g 76 (tabC ro idl now m e ca we)) (h1 : 0 ≤ now) (h2 : 0 ≤ idl ∧ idl ≤ 1000000) (h3 : now ≤ 9223372036854775807) :
    Calls Try.prog 119 #[.pointer (some ⟨k, 0, none⟩), .pointer (some ⟨tb, 0, none⟩)] w fun en w' => en = .returned (.bool (soE now idl x)) ∧ Below w.heap.size w w' := by
  have x6 : w.cell? ⟨k, 6, none⟩ = some (.int .i64 x.la) := hk.cellv 6 rfl
  have c0 : w.cell? ⟨tb, 0, none⟩ = some (.pointer (some ⟨g, 0, none⟩)) := hc.cellv 0 rfl
  have g1 : w.cell? ⟨g, 1, none⟩ = some (.int .i64 idl) := hg.cellv 1 rfl
  have g2 : w.cell? ⟨g, 2, none⟩ = some (.int .i64 now) := hg.cellv 2 rfl
  have ltk := hk.lt
  have ltc := hc.lt
  have ltg := hg.lt
  have kw : IntKind.i64.wrap (now - idl) = now - idl := IntWalk.i64_in _ (by omega)
  go_enter Try.func119, Try.ntmps119
  go_upto_region 1 with (fail)
  -- region 1: 0 1 2 3 4 5 6 7 8 9 10 11 12 13 14 15
  try refine wp_region_noPanic ?_
  have hs2r : Below w.heap.size w w.drew := (Below.refl _ _).drew
  refine wp_region_held_drew (S := fun w' => Below w.heap.size w w') (by kernel_rfl) hs2r (fun _ => ?_)
  (refine held_takeA 0 (by rfl) ?_ (by kernel_rfl) (fun _ _ _ h => h) hs2r ?_ ?_; rotate_left; (focus (intro wq hSw; have hrd : ∀ b o, b < w.heap.size → wq.cell? ⟨b, o, none⟩ = w.cell? ⟨b, o, none⟩ := (fun b o h => hSw.cell (p := ⟨b, o, none⟩) h); go_simp; try with_reducible rfl; done)); try simp only [Act.put, List.setIfInBounds_toArray, List.set_cons_zero, List.set_cons_succ])
  (refine held_takeA 1 (by rfl) ?_ (by kernel_rfl) (fun _ _ _ h => h) hs2r ?_ ?_; rotate_left; (focus (intro wq hSw; have hrd : ∀ b o, b < w.heap.size → wq.cell? ⟨b, o, none⟩ = w.cell? ⟨b, o, none⟩ := (fun b o h => hSw.cell (p := ⟨b, o, none⟩) h); go_simp; try with_reducible rfl; done)); try simp only [Act.put, List.setIfInBounds_toArray, List.set_cons_zero, List.set_cons_succ])
  (refine held_takeA 2 (by rfl) ?_ (by kernel_rfl) (fun _ _ _ h => h) hs2r ?_ ?_; rotate_left; (focus (intro wq hSw; have hrd : ∀ b o, b < w.heap.size → wq.cell? ⟨b, o, none⟩ = w.cell? ⟨b, o, none⟩ := (fun b o h => hSw.cell (p := ⟨b, o, none⟩) h); go_simp; try with_reducible rfl; done)); try simp only [Act.put, List.setIfInBounds_toArray, List.set_cons_zero, List.set_cons_succ])
  (refine held_takeA 3 (by rfl) ?_ (by kernel_rfl) (fun _ _ _ h => h) hs2r ?_ ?_; rotate_left; (focus (intro wq hSw; have hrd : ∀ b o, b < w.heap.size → wq.cell? ⟨b, o, none⟩ = w.cell? ⟨b, o, none⟩ := (fun b o h => hSw.cell (p := ⟨b, o, none⟩) h); go_simp; try with_reducible rfl; done)); try simp only [Act.put, List.setIfInBounds_toArray, List.set_cons_zero, List.set_cons_succ])
  (refine held_takeA 4 (by rfl) ?_ (by kernel_rfl) (fun _ _ _ h => h) hs2r ?_ ?_; rotate_left; (focus (intro wq hSw; have hrd : ∀ b o, b < w.heap.size → wq.cell? ⟨b, o, none⟩ = w.cell? ⟨b, o, none⟩ := (fun b o h => hSw.cell (p := ⟨b, o, none⟩) h); go_simp; try with_reducible rfl; done)); try simp only [Act.put, List.setIfInBounds_toArray, List.set_cons_zero, List.set_cons_succ])
  (refine held_takeA 5 (by rfl) ?_ (by kernel_rfl) (fun _ _ _ h => h) hs2r ?_ ?_; rotate_left; (focus (intro wq hSw; have hrd : ∀ b o, b < w.heap.size → wq.cell? ⟨b, o, none⟩ = w.cell? ⟨b, o, none⟩ := (fun b o h => hSw.cell (p := ⟨b, o, none⟩) h); go_simp; try with_reducible rfl; done)); try simp only [Act.put, List.setIfInBounds_toArray, List.set_cons_zero, List.set_cons_succ])
  (refine held_takeA 6 (by rfl) ?_ (by kernel_rfl) (fun _ _ _ h => h) hs2r ?_ ?_; rotate_left; (focus (intro wq hSw; have hrd : ∀ b o, b < w.heap.size → wq.cell? ⟨b, o, none⟩ = w.cell? ⟨b, o, none⟩ := (fun b o h => hSw.cell (p := ⟨b, o, none⟩) h); go_simp; try with_reducible rfl; done)); try simp only [Act.put, List.setIfInBounds_toArray, List.set_cons_zero, List.set_cons_succ])
  (refine held_takeA 7 (by rfl) ?_ (by kernel_rfl) (fun _ _ _ h => h) hs2r ?_ ?_; rotate_left; (focus (intro wq hSw; have hrd : ∀ b o, b < w.heap.size → wq.cell? ⟨b, o, none⟩ = w.cell? ⟨b, o, none⟩ := (fun b o h => hSw.cell (p := ⟨b, o, none⟩) h); go_simp; try with_reducible rfl; done)); try simp only [Act.put, List.setIfInBounds_toArray, List.set_cons_zero, List.set_cons_succ])
  (refine held_takeA 8 (by rfl) ?_ (by kernel_rfl) (fun _ _ _ h => h) hs2r ?_ ?_; rotate_left; (focus (intro wq hSw; have hrd : ∀ b o, b < w.heap.size → wq.cell? ⟨b, o, none⟩ = w.cell? ⟨b, o, none⟩ := (fun b o h => hSw.cell (p := ⟨b, o, none⟩) h); go_simp; try with_reducible rfl; done)); try simp only [Act.put, List.setIfInBounds_toArray, List.set_cons_zero, List.set_cons_succ])
  (refine held_takeA 9 (by rfl) ?_ (by kernel_rfl) (fun _ _ _ h => h) hs2r ?_ ?_; rotate_left; (focus (intro wq hSw; have hrd : ∀ b o, b < w.heap.size → wq.cell? ⟨b, o, none⟩ = w.cell? ⟨b, o, none⟩ := (fun b o h => hSw.cell (p := ⟨b, o, none⟩) h); go_simp; try with_reducible rfl; done)); try simp only [Act.put, List.setIfInBounds_toArray, List.set_cons_zero, List.set_cons_succ])
  (refine held_takeA 10 (by rfl) ?_ (by kernel_rfl) (fun _ _ _ h => h) hs2r ?_ ?_; rotate_left; (focus (intro wq hSw; have hrd : ∀ b o, b < w.heap.size → wq.cell? ⟨b, o, none⟩ = w.cell? ⟨b, o, none⟩ := (fun b o h => hSw.cell (p := ⟨b, o, none⟩) h); go_simp; try with_reducible rfl; done)); try simp only [Act.put, List.setIfInBounds_toArray, List.set_cons_zero, List.set_cons_succ])
  (refine held_takeA 11 (by rfl) ?_ (by kernel_rfl) (fun _ _ _ h => h) hs2r ?_ ?_; rotate_left; (focus (intro wq hSw; have hrd : ∀ b o, b < w.heap.size → wq.cell? ⟨b, o, none⟩ = w.cell? ⟨b, o, none⟩ := (fun b o h => hSw.cell (p := ⟨b, o, none⟩) h); go_simp; try with_reducible rfl; done)); try simp only [Act.put, List.setIfInBounds_toArray, List.set_cons_zero, List.set_cons_succ])
  (refine held_takeA 12 (by rfl) ?_ (by kernel_rfl) (fun _ _ _ h => h) hs2r ?_ ?_; rotate_left; (focus (intro wq hSw; have hrd : ∀ b o, b < w.heap.size → wq.cell? ⟨b, o, none⟩ = w.cell? ⟨b, o, none⟩ := (fun b o h => hSw.cell (p := ⟨b, o, none⟩) h); go_simp; try with_reducible rfl; done)); try simp only [Act.put, List.setIfInBounds_toArray, List.set_cons_zero, List.set_cons_succ])
  (refine held_takeA 13 (by rfl) ?_ (by kernel_rfl) (fun _ _ _ h => h) hs2r ?_ ?_; rotate_left; (focus (intro wq hSw; have hrd : ∀ b o, b < w.heap.size → wq.cell? ⟨b, o, none⟩ = w.cell? ⟨b, o, none⟩ := (fun b o h => hSw.cell (p := ⟨b, o, none⟩) h); go_simp; try with_reducible rfl; done)); try simp only [Act.put, List.setIfInBounds_toArray, List.set_cons_zero, List.set_cons_succ])
  (refine held_takeA 14 (by rfl) ?_ (by kernel_rfl) (fun _ _ _ h => h) hs2r ?_ ?_; rotate_left; (focus (intro wq hSw; have hrd : ∀ b o, b < w.heap.size → wq.cell? ⟨b, o, none⟩ = w.cell? ⟨b, o, none⟩ := (fun b o h => hSw.cell (p := ⟨b, o, none⟩) h); go_simp; try with_reducible rfl; done)); try simp only [Act.put, List.setIfInBounds_toArray, List.set_cons_zero, List.set_cons_succ])
  (refine held_takeA 15 (by rfl) ?_ (by kernel_rfl) (fun _ _ _ h => h) hs2r ?_ ?_; rotate_left; (focus (intro wq hSw; have hrd : ∀ b o, b < w.heap.size → wq.cell? ⟨b, o, none⟩ = w.cell? ⟨b, o, none⟩ := (fun b o h => hSw.cell (p := ⟨b, o, none⟩) h); go_simp; try with_reducible rfl; done)); try simp only [Act.put, List.setIfInBounds_toArray, List.set_cons_zero, List.set_cons_succ])
  refine wpAnyH_done (by kernel_rfl) ?_ _
  try refine NoPanic.normal ?_
  go_wp2_with fail
  go_ret
  exact ⟨rfl, (Below.refl _ _).drew⟩
def SwpPurge (w w0 w' : World) (g m e ob x : Nat) (ro idl now ca we : Int) (p q : List Nat) (dt : Nat → EnV) (v : Value) (L : List EnV) (z : Int) : Prop :=
  ∃ p' v' L' bk' nx', RingV w' g m e ro idl now ca we (p' ++ q) dt bk' nx' ∧ Blk w' ob 65 #[v'] ∧ Rows enK w' w0.heap.size w0.heap.size 62 v' L' ∧ v'.ownBlock ≠ some ob ∧ Chg w w' (fun k => k = m ∨ k ∈ e :: (p ++ x :: q) ∨ k = ob ∨ v.ownBlock = some k) ∧ ((soB z (dt x) = false ∧ p' = p ++ [x] ∧ L' = L) ∨ (soB z (dt x) = true ∧ p' = p ∧ L' = L ++ [dt x]))
set_option maxRecDepth 100000 in
set_option maxHeartbeats 4000000 in
theorem sweepStepPurge {w : World} {g m e : Nat} {ro idl now ca we : Int} {dt : Nat → EnV} {bk nx : Nat → Nat} {p q : List Nat} {x : Nat} (w0 : World) (z : Int) (h : RingV w g m e ro idl now ca we (p ++ x :: q) dt bk nx) (sb tb ob cb : Nat) (v : Value) (L : List EnV) (hs : Blk w sb 182 #[.func (.func 121) #[] #[.pointer (some ⟨cb, 0, none⟩)]]) (hcap : Blk w cb 3 #[.int .i64 z]) (ht : Blk w tb 59 #[.pointer (some ⟨g, 0, none⟩)]) (hob : Blk w ob 65 #[v]) (hrow : Rows enK w w0.heap.size w0.heap.size 62 v L)
    (hbase : w0.heap.size ≤ w.heap.size) (hold : g < w0.heap.size ∧ m < w0.heap.size ∧ ∀ k ∈ e :: (p ++ x :: q), k < w0.heap.size) (hob0 : w0.heap.size ≤ ob ∧ w0.heap.size ≤ tb ∧ w0.heap.size ≤ sb) (hvo : v.ownBlock ≠ some ob) (hL : L.length ≤ 1000000) :
    Calls Try.prog 170 #[.pointer (some ⟨x, 0, none⟩), .pointer (some ⟨sb, 0, none⟩), .pointer (some ⟨tb, 0, none⟩), .pointer (some ⟨ob, 0, none⟩)] w fun en w' => en = .returned (.bool true) ∧ SwpPurge w w0 w' g m e ob x ro idl now ca we p q dt v L z := by
  have hxl : x ∈ e :: (p ++ x :: q) := by simp
  have hx := h.nod x hxl
  have hxo := hold.2.2 x hxl
  have s0 : w.cell? ⟨sb, 0, none⟩ = some (.func (.func 121) #[] #[.pointer (some ⟨cb, 0, none⟩)]) := hs.cellv 0 rfl
  have lts := hs.lt
  have htb : tb ≠ ob := blk_apart ht hob (by decide)
  have htv := own_ne_blk hrow.1 ht (by decide)
  have hvx : v.ownBlock ≠ some x := fun e1 => by have := (hrow.1.lt x e1).1; omega
  have hso := (soPurge w x cb (dt x) (bk x) (nx x) z hx hcap)
  go_enter Try.func170, Try.ntmps170
  cases hb : soB z (dt x) with
  | false =>
    rw [hb] at hso
    go_wp2_with (refine hso.mono ?_; rintro en w2 ⟨rfl, hb2⟩)
    go_ret
    refine ⟨rfl, p ++ [x], v, L, bk, nx, ?_, hob.below hb2 hob.lt, hrow.below hb2, hvo, Chg.of_below hb2, .inl ⟨hb, rfl, rfl⟩⟩
    rw [List.append_assoc]
    exact h.fwd hb2
  | true =>
    rw [hb] at hso
    replace hb := Lib.hid hb
    go_upto_region 3 with (first
      | (go_at_call 121; refine hso.mono ?_; rintro en w2 ⟨rfl, hb2⟩; have t0 : w2.cell? ⟨tb, 0, none⟩ = some (.pointer (some ⟨g, 0, none⟩)) := (ht.below hb2 ht.lt).cellv 0 rfl; have ltt := (ht.below hb2 ht.lt).lt)
      | (go_at_call 120; refine (goneF_any (h.fwd hb2)).mono ?_; rintro en w3 ⟨rfl, h3, hC3, hx3⟩))
    have hkeep : ∀ k, w0.heap.size ≤ k → ¬ (k = m ∨ k ∈ e :: (p ++ x :: q)) := fun k hk q1 => by
      rcases q1 with q1 | q1
      · have := hold.2.1; omega
      · have := hold.2.2 k q1; omega
    have hrow2 := hrow.below hb2
    have hob2 := hob.below hb2 hob.lt
    have hz2 := hb2.size
    have hz3 := hC3.size
    have hrow3 : Rows enK w3 w0.heap.size w0.heap.size 62 v L := ⟨hC3.own hrow2.1 (fun k e1 => hkeep k (hrow2.1.lt k e1).1), fun _ _ => trivial⟩
    have hob3 := hC3.blk hob2 (hkeep ob hob0.1)
    have hC13 := (Chg.of_below (X := fun k => k = m ∨ k ∈ e :: (p ++ x :: q)) hb2).trans hC3 (fun _ _ q1 => q1)
    have hbase3 : w0.heap.size ≤ w3.heap.size := by omega
    clear hso hs hcap ht h hrow hob hrow2 hob2 hb2 hC3 s0 lts t0 ltt hx hbase
    have hrow := hrow3
    have hob := hob3
    have hbase := hbase3
    clear hrow3 hob3 hbase3
    have c0 : w3.cell? ⟨ob, 0, none⟩ = some v := hob.cellv 0 rfl
    have x0 : w3.cell? ⟨x, 0, none⟩ = some (.int .i64 (dt x).fl.pr) := hx3.cellv 0 rfl
    have x1 : w3.cell? ⟨x, 1, none⟩ = some (.int .u32 (dt x).fl.src) := hx3.cellv 1 rfl
    have x2 : w3.cell? ⟨x, 2, none⟩ = some (.int .u32 (dt x).fl.dst) := hx3.cellv 2 rfl
    have x3 : w3.cell? ⟨x, 3, none⟩ = some (.int .i64 (dt x).fl.sp) := hx3.cellv 3 rfl
    have x4 : w3.cell? ⟨x, 4, none⟩ = some (.int .i64 (dt x).fl.dp) := hx3.cellv 4 rfl
    have x5 : w3.cell? ⟨x, 5, none⟩ = some (.int .i64 (dt x).be) := hx3.cellv 5 rfl
    have x6 : w3.cell? ⟨x, 6, none⟩ = some (.int .i64 (dt x).la) := hx3.cellv 6 rfl
    have ltk := hx3.lt
    have lto := hob.lt
    -- region 3: 0 1 2 3 4 5M 6M 7M
    try refine wp_region_noPanic ?_
    have hs3r : (fun w' => w3.grownBy w' v.ownBlock) w3.drew := grown_drew (grown_refl _ _)
    refine wp_region_E 7 (S := fun w' => w3.grownBy w' v.ownBlock) (by kernel_rfl) hs3r (fun _ => ?_)
    (refine e_takeA 0 (by rfl) ?_ (by kernel_rfl) (fun _ _ _ h => h) hs3r ?_ ?_; rotate_left; (focus (intro wq hSw; have hrd := hSw; have hrd2 : ∀ b' o, b' < w3.heap.size → v.ownBlock ≠ some b' → wq.cell? ⟨b', o, none⟩ = w3.cell? ⟨b', o, none⟩ := (fun b' o h hne => grown_cellO hSw h hne); go_simp; try with_reducible rfl; done)); try simp only [Act.put, List.setIfInBounds_toArray, List.set_cons_zero, List.set_cons_succ])
    (refine e_takeA 1 (by rfl) ?_ (by kernel_rfl) (fun _ _ _ h => h) hs3r ?_ ?_; rotate_left; (focus (intro wq hSw; have hrd := hSw; have hrd2 : ∀ b' o, b' < w3.heap.size → v.ownBlock ≠ some b' → wq.cell? ⟨b', o, none⟩ = w3.cell? ⟨b', o, none⟩ := (fun b' o h hne => grown_cellO hSw h hne); go_simp; try with_reducible rfl; done)); try simp only [Act.put, List.setIfInBounds_toArray, List.set_cons_zero, List.set_cons_succ])
    (refine e_takeA 2 (by rfl) ?_ (by kernel_rfl) (fun _ _ _ h => h) hs3r ?_ ?_; rotate_left; (focus (intro wq hSw; have hrd := hSw; have hrd2 : ∀ b' o, b' < w3.heap.size → v.ownBlock ≠ some b' → wq.cell? ⟨b', o, none⟩ = w3.cell? ⟨b', o, none⟩ := (fun b' o h hne => grown_cellO hSw h hne); go_simp; try with_reducible rfl; done)); try simp only [Act.put, List.setIfInBounds_toArray, List.set_cons_zero, List.set_cons_succ])
    (refine e_takeA 3 (by rfl) ?_ (by kernel_rfl) (fun _ _ _ h => h) hs3r ?_ ?_; rotate_left; (focus (intro wq hSw; have hrd := hSw; have hrd2 : ∀ b' o, b' < w3.heap.size → v.ownBlock ≠ some b' → wq.cell? ⟨b', o, none⟩ = w3.cell? ⟨b', o, none⟩ := (fun b' o h hne => grown_cellO hSw h hne); go_simp; try with_reducible rfl; done)); try simp only [Act.put, List.setIfInBounds_toArray, List.set_cons_zero, List.set_cons_succ])
    (refine e_takeA 4 (by rfl) ?_ (by kernel_rfl) (fun _ _ _ h => h) hs3r ?_ ?_; rotate_left; (focus (intro wq hSw; have hrd := hSw; have hrd2 : ∀ b' o, b' < w3.heap.size → v.ownBlock ≠ some b' → wq.cell? ⟨b', o, none⟩ = w3.cell? ⟨b', o, none⟩ := (fun b' o h hne => grown_cellO hSw h hne); go_simp; try with_reducible rfl; done)); try simp only [Act.put, List.setIfInBounds_toArray, List.set_cons_zero, List.set_cons_succ])
    refine e_callA 5 (by rfl) (by kernel_rfl) (by rfl) (fun KQ hKQ => ?_)
    go_simp
    have hb5 : Below w3.heap.size w3 (w3.drew.alloc (.cells #[.int .i64 (dt x).fl.pr, .int .u32 (dt x).fl.src, .int .u32 (dt x).fl.dst, .int .i64 (dt x).fl.sp, .int .i64 (dt x).fl.dp, .int .i64 (dt x).be, .int .i64 (dt x).la] 62)) := (Below.refl w3.heap.size w3).drew.alloc (Nat.le_refl _) (.cells #[.int .i64 (dt x).fl.pr, .int .u32 (dt x).fl.src, .int .u32 (dt x).fl.dst, .int .i64 (dt x).fl.sp, .int .i64 (dt x).fl.dp, .int .i64 (dt x).be, .int .i64 (dt x).la] 62)
    have hseen : Seen enK (w3.drew.alloc (.cells #[.int .i64 (dt x).fl.pr, .int .u32 (dt x).fl.src, .int .u32 (dt x).fl.dst, .int .i64 (dt x).fl.sp, .int .i64 (dt x).fl.dp, .int .i64 (dt x).be, .int .i64 (dt x).la] 62)) (fun _ => True) (some ⟨w3.heap.size, 0, none⟩) 1 [dt x] := seen_one (R := enK) (S := fun _ => False) (S' := fun _ => True) w3.drew 62 (dt x) #[.int .i64 (dt x).fl.pr, .int .u32 (dt x).fl.src, .int .u32 (dt x).fl.dst, .int .i64 (dt x).fl.sp, .int .i64 (dt x).fl.dp, .int .i64 (dt x).be, .int .i64 (dt x).la] rfl trivial (fun _ h => h.elim) trivial (fun _ h => h.elim)
    have hrow5 := hrow.below hb5
    have hd : (w3.alloc (.cells #[.int .i64 (dt x).fl.pr, .int .u32 (dt x).fl.src, .int .u32 (dt x).fl.dst, .int .i64 (dt x).fl.sp, .int .i64 (dt x).fl.dp, .int .i64 (dt x).be, .int .i64 (dt x).la] 62)).drew = w3.drew.alloc (.cells #[.int .i64 (dt x).fl.pr, .int .u32 (dt x).fl.src, .int .u32 (dt x).fl.dst, .int .i64 (dt x).fl.sp, .int .i64 (dt x).fl.dp, .int .i64 (dt x).be, .int .i64 (dt x).la] 62) := rfl
    try rw [hd]
    clear hd
    have hz5 : w0.heap.size ≤ (w3.drew.alloc (.cells #[.int .i64 (dt x).fl.pr, .int .u32 (dt x).fl.src, .int .u32 (dt x).fl.dst, .int .i64 (dt x).fl.sp, .int .i64 (dt x).fl.dp, .int .i64 (dt x).be, .int .i64 (dt x).la] 62)).heap.size := Nat.le_trans hbase hb5.size
    generalize w3.drew.alloc (.cells #[.int .i64 (dt x).fl.pr, .int .u32 (dt x).fl.src, .int .u32 (dt x).fl.dst, .int .i64 (dt x).fl.sp, .int .i64 (dt x).fl.dp, .int .i64 (dt x).be, .int .i64 (dt x).la] 62) = w5 at *
    have hg5' := grown_of_below hb5 (Nat.le_refl _) v.ownBlock
    have hs4r := hg5'
    refine hKQ.out _ _ hs4r ?_
    clear hKQ KQ
    try simp only [Act.put, List.setIfInBounds_toArray, List.set_cons_zero, List.set_cons_succ]
    refine e_callA 6 (by rfl) (by kernel_rfl) (by rfl) (fun KQ hKQ => ?_)
    refine wp_rowsO en_ok (.tmp 12) (.tmp 17) (by rfl) hrow5 (by rfl) (by rfl) hseen (fun _ _ => trivial) (by unfold maxLen; omega) (by omega) hz5 ?_
    intro v6 w6 hR6 hg6 ho6
    obtain ⟨ln, hln⟩ : ∃ ln, ln = (L ++ [dt x]).length := ⟨_, rfl⟩
    obtain ⟨A7, c7, e7, -⟩ := hR6.1.any
    rw [← hln] at e7
    subst e7
    replace hln := Lib.hid hln
    have hg46 := grown_trans hg5' hg6
    have hs5r := hg46
    refine hKQ.out _ _ hs5r ?_
    clear hKQ KQ
    try simp only [Act.put, List.setIfInBounds_toArray, List.set_cons_zero, List.set_cons_succ]
    have hq6 := hob.grown hg46 (fun e => hvo e.symm)
    have n1 := own_ne_blk hR6.1 hq6 (by decide)
    have f0 := hq6.frozen 0
    have lto6 := hq6.lt
    obtain ⟨hq7, hg7⟩ := blk_store hq6 0 (.slice A7 ln c7)
    have hR7 : Rows enK (w6.setCell ⟨ob, 0, none⟩ (.slice A7 ln c7)) w0.heap.size w0.heap.size 62 (.slice A7 ln c7) (L ++ [dt x]) := ⟨hR6.1.kept hg7 (.inr n1), fun _ _ => trivial⟩
    have c06 : w6.cell? ⟨ob, 0, none⟩ = some v := hq6.cellv 0 rfl
    have hC7 : Chg w3 (w6.setCell ⟨ob, 0, none⟩ (.slice A7 ln c7)) (fun k => k = ob ∨ v.ownBlock = some k) := (Chg.of_grownO (X := fun k => k = ob ∨ v.ownBlock = some k) hg46 (fun k e => .inr e)).trans (Chg.of_grown (X := fun k => k = ob) hg7 rfl) (fun i hi q1 => .inl q1)
    replace hq7 := Lib.hid hq7
    replace hR7 := Lib.hid hR7
    replace hC7 := Lib.hid hC7
    clear hg7
    refine e_last (by rfl) (by kernel_rfl) (by rfl) (fun KQ hKQ => ?_)
    go_simp
    generalize w6.setCell ⟨ob, 0, none⟩ (.slice A7 ln c7) = w7 at *
    refine hKQ.out _ _ ?_
    clear hKQ KQ
    try simp only [Act.put]
    refine e_done (by kernel_rfl) ?_ _
    try refine NoPanic.normal ?_
    go_wp2_with fail
    go_ret
    refine ⟨rfl, p, _, _, _, _, h3.chg hC7.out ?_ ?_ ?_, hq7.out, hR7.out, n1, (hC13.mono (fun i hi q1 => ?_)).trans hC7.out (fun i hi q1 => ?_), .inr ⟨hb.out, rfl, rfl⟩⟩
    · rintro (q1 | q1)
      · have := hold.1; omega
      · have := (hrow.1.lt g q1).1; have := hold.1; omega
    · rintro (q1 | q1)
      · have := hold.2.1; omega
      · have := (hrow.1.lt m q1).1; have := hold.2.1; omega
    · intro k hk
      have hk2 : k < w0.heap.size := hold.2.2 k (by
        rcases List.mem_cons.1 hk with q2 | q2
        · rw [q2]; simp
        · refine List.mem_cons_of_mem _ ?_
          simp at q2 ⊢
          rcases q2 with q2 | q2 <;> simp [q2])
      rintro (q1 | q1)
      · omega
      · have := (hrow.1.lt k q1).1; omega
    · exact q1.elim .inl fun q1 => .inr (.inl q1)
    · exact .inr (.inr q1)
def SwpExpire (w w0 w' : World) (g m e ob x : Nat) (ro idl now ca we : Int) (p q : List Nat) (dt : Nat → EnV) (v : Value) (L : List EnV)  : Prop :=
  ∃ p' v' L' bk' nx', RingV w' g m e ro idl now ca we (p' ++ q) dt bk' nx' ∧ Blk w' ob 65 #[v'] ∧ Rows enK w' w0.heap.size w0.heap.size 62 v' L' ∧ v'.ownBlock ≠ some ob ∧ Chg w w' (fun k => k = m ∨ k ∈ e :: (p ++ x :: q) ∨ k = ob ∨ v.ownBlock = some k) ∧ ((soE now idl (dt x) = false ∧ p' = p ++ [x] ∧ L' = L) ∨ (soE now idl (dt x) = true ∧ p' = p ∧ L' = L ++ [dt x]))
set_option maxRecDepth 100000 in
set_option maxHeartbeats 4000000 in
theorem sweepStepExpire {w : World} {g m e : Nat} {ro idl now ca we : Int} {dt : Nat → EnV} {bk nx : Nat → Nat} {p q : List Nat} {x : Nat} (w0 : World)  (h : RingV w g m e ro idl now ca we (p ++ x :: q) dt bk nx) (sb tb ob cb : Nat) (v : Value) (L : List EnV) (hs : Blk w sb 182 #[.func (.func 119) #[] #[.pointer (some ⟨cb, 0, none⟩)]]) (hcap : Blk w cb 59 #[.pointer (some ⟨g, 0, none⟩)]) (ht : Blk w tb 59 #[.pointer (some ⟨g, 0, none⟩)]) (hob : Blk w ob 65 #[v]) (hrow : Rows enK w w0.heap.size w0.heap.size 62 v L)
    (hbase : w0.heap.size ≤ w.heap.size) (hold : g < w0.heap.size ∧ m < w0.heap.size ∧ ∀ k ∈ e :: (p ++ x :: q), k < w0.heap.size) (hob0 : w0.heap.size ≤ ob ∧ w0.heap.size ≤ tb ∧ w0.heap.size ≤ sb) (hvo : v.ownBlock ≠ some ob) (hL : L.length ≤ 1000000) (hn1 : 0 ≤ now) (hn2 : 0 ≤ idl ∧ idl ≤ 1000000) (hn3 : now ≤ 9223372036854775807) :
    Calls Try.prog 170 #[.pointer (some ⟨x, 0, none⟩), .pointer (some ⟨sb, 0, none⟩), .pointer (some ⟨tb, 0, none⟩), .pointer (some ⟨ob, 0, none⟩)] w fun en w' => en = .returned (.bool true) ∧ SwpExpire w w0 w' g m e ob x ro idl now ca we p q dt v L  := by
  have hxl : x ∈ e :: (p ++ x :: q) := by simp
  have hx := h.nod x hxl
  have hxo := hold.2.2 x hxl
  have s0 : w.cell? ⟨sb, 0, none⟩ = some (.func (.func 119) #[] #[.pointer (some ⟨cb, 0, none⟩)]) := hs.cellv 0 rfl
  have lts := hs.lt
  have htb : tb ≠ ob := blk_apart ht hob (by decide)
  have htv := own_ne_blk hrow.1 ht (by decide)
  have hvx : v.ownBlock ≠ some x := fun e1 => by have := (hrow.1.lt x e1).1; omega
  have hso := (soExpire w x cb g (dt x) (bk x) (nx x) ro idl now m e ca we hx hcap h.blk hn1 hn2 hn3)
  go_enter Try.func170, Try.ntmps170
  cases hb : soE now idl (dt x) with
  | false =>
    rw [hb] at hso
    go_wp2_with (refine hso.mono ?_; rintro en w2 ⟨rfl, hb2⟩)
    go_ret
    refine ⟨rfl, p ++ [x], v, L, bk, nx, ?_, hob.below hb2 hob.lt, hrow.below hb2, hvo, Chg.of_below hb2, .inl ⟨hb, rfl, rfl⟩⟩
    rw [List.append_assoc]
    exact h.fwd hb2
  | true =>
    rw [hb] at hso
    replace hb := Lib.hid hb
    go_upto_region 3 with (first
      | (go_at_call 119; refine hso.mono ?_; rintro en w2 ⟨rfl, hb2⟩; have t0 : w2.cell? ⟨tb, 0, none⟩ = some (.pointer (some ⟨g, 0, none⟩)) := (ht.below hb2 ht.lt).cellv 0 rfl; have ltt := (ht.below hb2 ht.lt).lt)
      | (go_at_call 120; refine (goneF_any (h.fwd hb2)).mono ?_; rintro en w3 ⟨rfl, h3, hC3, hx3⟩))
    have hkeep : ∀ k, w0.heap.size ≤ k → ¬ (k = m ∨ k ∈ e :: (p ++ x :: q)) := fun k hk q1 => by
      rcases q1 with q1 | q1
      · have := hold.2.1; omega
      · have := hold.2.2 k q1; omega
    have hrow2 := hrow.below hb2
    have hob2 := hob.below hb2 hob.lt
    have hz2 := hb2.size
    have hz3 := hC3.size
    have hrow3 : Rows enK w3 w0.heap.size w0.heap.size 62 v L := ⟨hC3.own hrow2.1 (fun k e1 => hkeep k (hrow2.1.lt k e1).1), fun _ _ => trivial⟩
    have hob3 := hC3.blk hob2 (hkeep ob hob0.1)
    have hC13 := (Chg.of_below (X := fun k => k = m ∨ k ∈ e :: (p ++ x :: q)) hb2).trans hC3 (fun _ _ q1 => q1)
    have hbase3 : w0.heap.size ≤ w3.heap.size := by omega
    clear hso hs hcap ht h hrow hob hrow2 hob2 hb2 hC3 s0 lts t0 ltt hx hbase
    have hrow := hrow3
    have hob := hob3
    have hbase := hbase3
    clear hrow3 hob3 hbase3
    have c0 : w3.cell? ⟨ob, 0, none⟩ = some v := hob.cellv 0 rfl
    have x0 : w3.cell? ⟨x, 0, none⟩ = some (.int .i64 (dt x).fl.pr) := hx3.cellv 0 rfl
    have x1 : w3.cell? ⟨x, 1, none⟩ = some (.int .u32 (dt x).fl.src) := hx3.cellv 1 rfl
    have x2 : w3.cell? ⟨x, 2, none⟩ = some (.int .u32 (dt x).fl.dst) := hx3.cellv 2 rfl
    have x3 : w3.cell? ⟨x, 3, none⟩ = some (.int .i64 (dt x).fl.sp) := hx3.cellv 3 rfl
    have x4 : w3.cell? ⟨x, 4, none⟩ = some (.int .i64 (dt x).fl.dp) := hx3.cellv 4 rfl
    have x5 : w3.cell? ⟨x, 5, none⟩ = some (.int .i64 (dt x).be) := hx3.cellv 5 rfl
    have x6 : w3.cell? ⟨x, 6, none⟩ = some (.int .i64 (dt x).la) := hx3.cellv 6 rfl
    have ltk := hx3.lt
    have lto := hob.lt
    -- region 3: 0 1 2 3 4 5M 6M 7M
    try refine wp_region_noPanic ?_
    have hs6r : (fun w' => w3.grownBy w' v.ownBlock) w3.drew := grown_drew (grown_refl _ _)
    refine wp_region_E 7 (S := fun w' => w3.grownBy w' v.ownBlock) (by kernel_rfl) hs6r (fun _ => ?_)
    (refine e_takeA 0 (by rfl) ?_ (by kernel_rfl) (fun _ _ _ h => h) hs6r ?_ ?_; rotate_left; (focus (intro wq hSw; have hrd := hSw; have hrd2 : ∀ b' o, b' < w3.heap.size → v.ownBlock ≠ some b' → wq.cell? ⟨b', o, none⟩ = w3.cell? ⟨b', o, none⟩ := (fun b' o h hne => grown_cellO hSw h hne); go_simp; try with_reducible rfl; done)); try simp only [Act.put, List.setIfInBounds_toArray, List.set_cons_zero, List.set_cons_succ])
    (refine e_takeA 1 (by rfl) ?_ (by kernel_rfl) (fun _ _ _ h => h) hs6r ?_ ?_; rotate_left; (focus (intro wq hSw; have hrd := hSw; have hrd2 : ∀ b' o, b' < w3.heap.size → v.ownBlock ≠ some b' → wq.cell? ⟨b', o, none⟩ = w3.cell? ⟨b', o, none⟩ := (fun b' o h hne => grown_cellO hSw h hne); go_simp; try with_reducible rfl; done)); try simp only [Act.put, List.setIfInBounds_toArray, List.set_cons_zero, List.set_cons_succ])
    (refine e_takeA 2 (by rfl) ?_ (by kernel_rfl) (fun _ _ _ h => h) hs6r ?_ ?_; rotate_left; (focus (intro wq hSw; have hrd := hSw; have hrd2 : ∀ b' o, b' < w3.heap.size → v.ownBlock ≠ some b' → wq.cell? ⟨b', o, none⟩ = w3.cell? ⟨b', o, none⟩ := (fun b' o h hne => grown_cellO hSw h hne); go_simp; try with_reducible rfl; done)); try simp only [Act.put, List.setIfInBounds_toArray, List.set_cons_zero, List.set_cons_succ])
    (refine e_takeA 3 (by rfl) ?_ (by kernel_rfl) (fun _ _ _ h => h) hs6r ?_ ?_; rotate_left; (focus (intro wq hSw; have hrd := hSw; have hrd2 : ∀ b' o, b' < w3.heap.size → v.ownBlock ≠ some b' → wq.cell? ⟨b', o, none⟩ = w3.cell? ⟨b', o, none⟩ := (fun b' o h hne => grown_cellO hSw h hne); go_simp; try with_reducible rfl; done)); try simp only [Act.put, List.setIfInBounds_toArray, List.set_cons_zero, List.set_cons_succ])
    (refine e_takeA 4 (by rfl) ?_ (by kernel_rfl) (fun _ _ _ h => h) hs6r ?_ ?_; rotate_left; (focus (intro wq hSw; have hrd := hSw; have hrd2 : ∀ b' o, b' < w3.heap.size → v.ownBlock ≠ some b' → wq.cell? ⟨b', o, none⟩ = w3.cell? ⟨b', o, none⟩ := (fun b' o h hne => grown_cellO hSw h hne); go_simp; try with_reducible rfl; done)); try simp only [Act.put, List.setIfInBounds_toArray, List.set_cons_zero, List.set_cons_succ])
    refine e_callA 5 (by rfl) (by kernel_rfl) (by rfl) (fun KQ hKQ => ?_)
    go_simp
    have hb5 : Below w3.heap.size w3 (w3.drew.alloc (.cells #[.int .i64 (dt x).fl.pr, .int .u32 (dt x).fl.src, .int .u32 (dt x).fl.dst, .int .i64 (dt x).fl.sp, .int .i64 (dt x).fl.dp, .int .i64 (dt x).be, .int .i64 (dt x).la] 62)) := (Below.refl w3.heap.size w3).drew.alloc (Nat.le_refl _) (.cells #[.int .i64 (dt x).fl.pr, .int .u32 (dt x).fl.src, .int .u32 (dt x).fl.dst, .int .i64 (dt x).fl.sp, .int .i64 (dt x).fl.dp, .int .i64 (dt x).be, .int .i64 (dt x).la] 62)
    have hseen : Seen enK (w3.drew.alloc (.cells #[.int .i64 (dt x).fl.pr, .int .u32 (dt x).fl.src, .int .u32 (dt x).fl.dst, .int .i64 (dt x).fl.sp, .int .i64 (dt x).fl.dp, .int .i64 (dt x).be, .int .i64 (dt x).la] 62)) (fun _ => True) (some ⟨w3.heap.size, 0, none⟩) 1 [dt x] := seen_one (R := enK) (S := fun _ => False) (S' := fun _ => True) w3.drew 62 (dt x) #[.int .i64 (dt x).fl.pr, .int .u32 (dt x).fl.src, .int .u32 (dt x).fl.dst, .int .i64 (dt x).fl.sp, .int .i64 (dt x).fl.dp, .int .i64 (dt x).be, .int .i64 (dt x).la] rfl trivial (fun _ h => h.elim) trivial (fun _ h => h.elim)
    have hrow5 := hrow.below hb5
    have hd : (w3.alloc (.cells #[.int .i64 (dt x).fl.pr, .int .u32 (dt x).fl.src, .int .u32 (dt x).fl.dst, .int .i64 (dt x).fl.sp, .int .i64 (dt x).fl.dp, .int .i64 (dt x).be, .int .i64 (dt x).la] 62)).drew = w3.drew.alloc (.cells #[.int .i64 (dt x).fl.pr, .int .u32 (dt x).fl.src, .int .u32 (dt x).fl.dst, .int .i64 (dt x).fl.sp, .int .i64 (dt x).fl.dp, .int .i64 (dt x).be, .int .i64 (dt x).la] 62) := rfl
    try rw [hd]
    clear hd
    have hz5 : w0.heap.size ≤ (w3.drew.alloc (.cells #[.int .i64 (dt x).fl.pr, .int .u32 (dt x).fl.src, .int .u32 (dt x).fl.dst, .int .i64 (dt x).fl.sp, .int .i64 (dt x).fl.dp, .int .i64 (dt x).be, .int .i64 (dt x).la] 62)).heap.size := Nat.le_trans hbase hb5.size
    generalize w3.drew.alloc (.cells #[.int .i64 (dt x).fl.pr, .int .u32 (dt x).fl.src, .int .u32 (dt x).fl.dst, .int .i64 (dt x).fl.sp, .int .i64 (dt x).fl.dp, .int .i64 (dt x).be, .int .i64 (dt x).la] 62) = w5 at *
    have hg5' := grown_of_below hb5 (Nat.le_refl _) v.ownBlock
    have hs7r := hg5'
    refine hKQ.out _ _ hs7r ?_
    clear hKQ KQ
    try simp only [Act.put, List.setIfInBounds_toArray, List.set_cons_zero, List.set_cons_succ]
    refine e_callA 6 (by rfl) (by kernel_rfl) (by rfl) (fun KQ hKQ => ?_)
    refine wp_rowsO en_ok (.tmp 12) (.tmp 17) (by rfl) hrow5 (by rfl) (by rfl) hseen (fun _ _ => trivial) (by unfold maxLen; omega) (by omega) hz5 ?_
    intro v6 w6 hR6 hg6 ho6
    obtain ⟨ln, hln⟩ : ∃ ln, ln = (L ++ [dt x]).length := ⟨_, rfl⟩
    obtain ⟨A7, c7, e7, -⟩ := hR6.1.any
    rw [← hln] at e7
    subst e7
    replace hln := Lib.hid hln
    have hg46 := grown_trans hg5' hg6
    have hs8r := hg46
    refine hKQ.out _ _ hs8r ?_
    clear hKQ KQ
    try simp only [Act.put, List.setIfInBounds_toArray, List.set_cons_zero, List.set_cons_succ]
    have hq6 := hob.grown hg46 (fun e => hvo e.symm)
    have n1 := own_ne_blk hR6.1 hq6 (by decide)
    have f0 := hq6.frozen 0
    have lto6 := hq6.lt
    obtain ⟨hq7, hg7⟩ := blk_store hq6 0 (.slice A7 ln c7)
    have hR7 : Rows enK (w6.setCell ⟨ob, 0, none⟩ (.slice A7 ln c7)) w0.heap.size w0.heap.size 62 (.slice A7 ln c7) (L ++ [dt x]) := ⟨hR6.1.kept hg7 (.inr n1), fun _ _ => trivial⟩
    have c06 : w6.cell? ⟨ob, 0, none⟩ = some v := hq6.cellv 0 rfl
    have hC7 : Chg w3 (w6.setCell ⟨ob, 0, none⟩ (.slice A7 ln c7)) (fun k => k = ob ∨ v.ownBlock = some k) := (Chg.of_grownO (X := fun k => k = ob ∨ v.ownBlock = some k) hg46 (fun k e => .inr e)).trans (Chg.of_grown (X := fun k => k = ob) hg7 rfl) (fun i hi q1 => .inl q1)
    replace hq7 := Lib.hid hq7
    replace hR7 := Lib.hid hR7
    replace hC7 := Lib.hid hC7
    clear hg7
    refine e_last (by rfl) (by kernel_rfl) (by rfl) (fun KQ hKQ => ?_)
    go_simp
    generalize w6.setCell ⟨ob, 0, none⟩ (.slice A7 ln c7) = w7 at *
    refine hKQ.out _ _ ?_
    clear hKQ KQ
    try simp only [Act.put]
    refine e_done (by kernel_rfl) ?_ _
    try refine NoPanic.normal ?_
    go_wp2_with fail
    go_ret
    refine ⟨rfl, p, _, _, _, _, h3.chg hC7.out ?_ ?_ ?_, hq7.out, hR7.out, n1, (hC13.mono (fun i hi q1 => ?_)).trans hC7.out (fun i hi q1 => ?_), .inr ⟨hb.out, rfl, rfl⟩⟩
    · rintro (q1 | q1)
      · have := hold.1; omega
      · have := (hrow.1.lt g q1).1; have := hold.1; omega
    · rintro (q1 | q1)
      · have := hold.2.1; omega
      · have := (hrow.1.lt m q1).1; have := hold.2.1; omega
    · intro k hk
      have hk2 : k < w0.heap.size := hold.2.2 k (by
        rcases List.mem_cons.1 hk with q2 | q2
        · rw [q2]; simp
        · refine List.mem_cons_of_mem _ ?_
          simp at q2 ⊢
          rcases q2 with q2 | q2 <;> simp [q2])
      rintro (q1 | q1)
      · omega
      · have := (hrow.1.lt k q1).1; omega
    · exact q1.elim .inl fun q1 => .inr (.inl q1)
    · exact .inr (.inr q1)
set_option maxRecDepth 100000 in
set_option maxHeartbeats 8000000 in
theorem eachSweepPurge {w : World} {g m e : Nat} {ro idl now ca we : Int} {dt : Nat → EnV} {bk nx : Nat → Nat} {l : List Nat} (w0 : World) (z : Int) (h : RingV w g m e ro idl now ca we l dt bk nx) (sb tb ob cb : Nat) (hs : Blk w sb 182 #[.func (.func 121) #[] #[.pointer (some ⟨cb, 0, none⟩)]]) (hcap : Blk w cb 3 #[.int .i64 z]) (ht : Blk w tb 59 #[.pointer (some ⟨g, 0, none⟩)]) (hob : Blk w ob 65 #[.slice none 0 0])
    (hbase : w0.heap.size ≤ w.heap.size) (hold : g < w0.heap.size ∧ m < w0.heap.size ∧ ∀ k ∈ e :: l, k < w0.heap.size) (hob0 : w0.heap.size ≤ ob ∧ w0.heap.size ≤ tb ∧ w0.heap.size ≤ sb ∧ w0.heap.size ≤ cb) (hl : l.length ≤ 1000000) :
    Calls Try.prog 122 #[.pointer (some ⟨g, 0, none⟩), .func (.func 170) #[] #[.pointer (some ⟨sb, 0, none⟩), .pointer (some ⟨tb, 0, none⟩), .pointer (some ⟨ob, 0, none⟩)]] w fun en w' => en = .returned (.tuple #[]) ∧ ∃ bk' nx' v', RingV w' g m e ro idl now ca we (l.filter fun k => !(soB z (dt k))) dt bk' nx' ∧ Blk w' ob 65 #[v'] ∧ Rows enK w' w0.heap.size w0.heap.size 62 v' ((l.filter fun k => soB z (dt k)).map dt) ∧ Chg w w' (fun k => k = m ∨ k ∈ e :: l ∨ w0.heap.size ≤ k) := by
  obtain ⟨v0, hv0⟩ := cyc_next h.cyc
  have c4 : w.cell? ⟨g, 4, none⟩ = some (.pointer (some ⟨e, 0, none⟩)) := h.blk.cellv 4 rfl
  have e8 : w.cell? ⟨e, 8, none⟩ = some (.pointer (some ⟨nx e, 0, none⟩)) := (h.nod e (by simp)).cellv 8 rfl
  have ltg := h.blk.lt
  have lte := (h.nod e (by simp)).lt
  have hrow := Rows.nil (R := enK) w w0.heap.size w0.heap.size 62
  replace hv0 := Lib.hid hv0
  go_enter Try.func122, Try.ntmps122
  go_wp2_with (go_at_call 113; refine (madeF_in h).mono ?_; rintro en w' ⟨rfl, rfl⟩)
  go_loopg [4] (l.length + 1) (fun gf cv wr => ∃ (dn q : List Nat) (c : Nat) (tl : List Nat) (v : Value) (bk nx : Nat → Nat), cv = .pointer (some ⟨c, 0, none⟩) ∧ l = dn ++ q ∧ q ++ [e] = c :: tl ∧ q.length + 1 ≤ gf ∧ RingV wr g m e ro idl now ca we ((dn.filter fun k => !(soB z (dt k))) ++ q) dt bk nx ∧ Blk wr ob 65 #[v] ∧ Rows enK wr w0.heap.size w0.heap.size 62 v ((dn.filter fun k => soB z (dt k)).map dt) ∧ v.ownBlock ≠ some ob ∧ Chg w wr (fun k => k = m ∨ k ∈ e :: l ∨ w0.heap.size ≤ k) ∧ Blk wr sb 182 #[.func (.func 121) #[] #[.pointer (some ⟨cb, 0, none⟩)]] ∧ Blk wr cb 3 #[.int .i64 z] ∧ Blk wr tb 59 #[.pointer (some ⟨g, 0, none⟩)])
  case atStart => exact ⟨[], l, nx e, v0, _, bk, nx, rfl, rfl, hv0.out, Nat.le_refl _, h, hob, hrow, by simp [Value.ownBlock], Chg.refl _ _, hs, hcap, ht⟩
  case round =>
  clear h hob hrow c4 e8 ltg lte hs hcap ht
  obtain ⟨dn, q, c, tl, v, bk, nx, rfl, hpq, hq, hgf, h, hob, hrow, hvo, hC, hs, hcap, ht⟩ := hrel
  replace hpq := Lib.hid hpq
  have c4 : wr.cell? ⟨g, 4, none⟩ = some (.pointer (some ⟨e, 0, none⟩)) := h.blk.cellv 4 rfl
  have ltg := h.blk.lt
  have hz := hC.size
  cases q with
  | nil =>
    simp at hq
    obtain ⟨rfl, -⟩ := hq
    have hns := neq_same (w := wr) e
    go_wp2_with fail
    go_end0
    have e1 : l = dn := by have := hpq.out; simpa using this
    rw [List.append_nil] at h
    rw [← e1] at h hrow
    exact ⟨rfl, bk, nx, v, h, hob, hrow, hC⟩
  | cons x q =>
    rw [List.cons_append] at hq
    injection hq with hxc _
    subst hxc
    have hxl : x ∈ l := by rw [hpq.out]; simp
    obtain ⟨p, hp⟩ : ∃ p, p = dn.filter fun k => !(soB z (dt k)) := ⟨_, rfl⟩
    obtain ⟨L, hL⟩ : ∃ L, L = (dn.filter fun k => soB z (dt k)).map dt := ⟨_, rfl⟩
    rw [← hp] at h
    rw [← hL] at hrow
    have hsub : ∀ k ∈ e :: (p ++ x :: q), k ∈ e :: l := fun k hk => by
      rw [hpq.out]
      rcases List.mem_cons.1 hk with q1 | q1
      · rw [q1]; simp
      · refine List.mem_cons_of_mem _ ?_
        rcases List.mem_append.1 q1 with q1 | q1
        · rw [hp] at q1
          exact List.mem_append_left _ (List.mem_filter.1 q1).1
        · exact List.mem_append_right _ q1
    have hnd := h.nd
    rw [List.nodup_cons] at hnd
    have hxe : x ≠ e := fun q1 => hnd.1 (by rw [← q1]; simp)
    obtain ⟨v1, hv1⟩ := cyc_step h.cyc
    have hx := h.nod x (by simp)
    have x8 : wr.cell? ⟨x, 8, none⟩ = some (.pointer (some ⟨nx x, 0, none⟩)) := hx.cellv 8 rfl
    have ltx := hx.lt
    have hns := neq_other hx (h.nod e (by simp)) hxe
    have hpl : L.length ≤ 1000000 := by
      have h1 := congrArg List.length hpq.out
      rw [List.length_append, List.length_cons] at h1
      have h2 : (dn.filter fun k => soB z (dt k)).length ≤ dn.length := List.length_filter_le _ _
      rw [hL, List.length_map]
      omega
    have hst := sweepStepPurge w0 z h sb tb ob cb v L hs hcap ht hob hrow (by omega) ⟨hold.1, hold.2.1, fun k hk => hold.2.2 k (hsub k hk)⟩ ⟨hob0.1, hob0.2.1, hob0.2.2.1⟩ hvo hpl 
    replace hv1 := Lib.hid hv1
    replace hp := Lib.hid hp
    replace hL := Lib.hid hL
    clear hnd
    go_wp2_with (go_at_call 170; refine hst.mono ?_; rintro en w2 ⟨rfl, hsw⟩)
    obtain ⟨p', v2, L', bk2, nx2, h2, hob2, hrow2, hvo2, hC2, hcase⟩ := hsw
    have hkeep : ∀ k, w0.heap.size ≤ k → k ≠ ob → v.ownBlock ≠ some k → ¬ (k = m ∨ k ∈ e :: (p ++ x :: q) ∨ k = ob ∨ v.ownBlock = some k) := fun k h1 h2 h3 q1 => by
      rcases q1 with q1 | q1 | q1 | q1
      · have := hold.2.1; omega
      · have := hold.2.2 k (hsub k q1); omega
      · exact h2 q1
      · exact h3 q1
    have hs2 := hC2.blk hs (hkeep sb hob0.2.2.1 (blk_apart hs hob (by decide)) (own_ne_blk hrow.1 hs (by decide)))
    have hc2 := hC2.blk hcap (hkeep cb hob0.2.2.2 (blk_apart hcap hob (by decide)) (own_ne_blk hrow.1 hcap (by decide)))
    have ht2 := hC2.blk ht (hkeep tb hob0.2.1 (blk_apart ht hob (by decide)) (own_ne_blk hrow.1 ht (by decide)))
    have hlt2 : ∀ k, v.ownBlock = some k → w0.heap.size ≤ k := fun k e1 => (hrow.1.lt k e1).1
    have hCC := hC.trans hC2 (fun i hi q1 => by
      rcases q1 with q1 | q1 | q1 | q1
      · exact .inl q1
      · exact .inr (.inl (hsub i q1))
      · exact .inr (.inr (by omega))
      · exact .inr (.inr (hlt2 i q1)))
    have hpe : p' = (dn ++ [x]).filter (fun k => !(soB z (dt k))) ∧ L' = ((dn ++ [x]).filter fun k => soB z (dt k)).map dt := by
      rw [List.filter_append, List.filter_append, List.map_append, ← hp.out, ← hL.out]
      rcases hcase with ⟨c1, rfl, rfl⟩ | ⟨c1, rfl, rfl⟩
      · simp [c1]
      · simp [c1]
    rw [hpe.1] at h2
    rw [hpe.2] at hrow2
    go_roundg (q.length + 1)
    case measure => simp at hgf; omega
    case rel => exact ⟨dn ++ [x], q, nx x, v1, v2, bk2, nx2, rfl, by rw [hpq.out]; simp, hv1.out, Nat.le_refl _, h2, hob2, hrow2, hvo2, hCC, hs2, hc2, ht2⟩
set_option maxRecDepth 100000 in
set_option maxHeartbeats 8000000 in
theorem eachSweepExpire {w : World} {g m e : Nat} {ro idl now ca we : Int} {dt : Nat → EnV} {bk nx : Nat → Nat} {l : List Nat} (w0 : World)  (h : RingV w g m e ro idl now ca we l dt bk nx) (sb tb ob cb : Nat) (hs : Blk w sb 182 #[.func (.func 119) #[] #[.pointer (some ⟨cb, 0, none⟩)]]) (hcap : Blk w cb 59 #[.pointer (some ⟨g, 0, none⟩)]) (ht : Blk w tb 59 #[.pointer (some ⟨g, 0, none⟩)]) (hob : Blk w ob 65 #[.slice none 0 0])
    (hbase : w0.heap.size ≤ w.heap.size) (hold : g < w0.heap.size ∧ m < w0.heap.size ∧ ∀ k ∈ e :: l, k < w0.heap.size) (hob0 : w0.heap.size ≤ ob ∧ w0.heap.size ≤ tb ∧ w0.heap.size ≤ sb ∧ w0.heap.size ≤ cb) (hl : l.length ≤ 1000000) (hn1 : 0 ≤ now) (hn2 : 0 ≤ idl ∧ idl ≤ 1000000) (hn3 : now ≤ 9223372036854775807) :
    Calls Try.prog 122 #[.pointer (some ⟨g, 0, none⟩), .func (.func 170) #[] #[.pointer (some ⟨sb, 0, none⟩), .pointer (some ⟨tb, 0, none⟩), .pointer (some ⟨ob, 0, none⟩)]] w fun en w' => en = .returned (.tuple #[]) ∧ ∃ bk' nx' v', RingV w' g m e ro idl now ca we (l.filter fun k => !(soE now idl (dt k))) dt bk' nx' ∧ Blk w' ob 65 #[v'] ∧ Rows enK w' w0.heap.size w0.heap.size 62 v' ((l.filter fun k => soE now idl (dt k)).map dt) ∧ Chg w w' (fun k => k = m ∨ k ∈ e :: l ∨ w0.heap.size ≤ k) := by
  obtain ⟨v0, hv0⟩ := cyc_next h.cyc
  have c4 : w.cell? ⟨g, 4, none⟩ = some (.pointer (some ⟨e, 0, none⟩)) := h.blk.cellv 4 rfl
  have e8 : w.cell? ⟨e, 8, none⟩ = some (.pointer (some ⟨nx e, 0, none⟩)) := (h.nod e (by simp)).cellv 8 rfl
  have ltg := h.blk.lt
  have lte := (h.nod e (by simp)).lt
  have hrow := Rows.nil (R := enK) w w0.heap.size w0.heap.size 62
  replace hv0 := Lib.hid hv0
  go_enter Try.func122, Try.ntmps122
  go_wp2_with (go_at_call 113; refine (madeF_in h).mono ?_; rintro en w' ⟨rfl, rfl⟩)
  go_loopg [4] (l.length + 1) (fun gf cv wr => ∃ (dn q : List Nat) (c : Nat) (tl : List Nat) (v : Value) (bk nx : Nat → Nat), cv = .pointer (some ⟨c, 0, none⟩) ∧ l = dn ++ q ∧ q ++ [e] = c :: tl ∧ q.length + 1 ≤ gf ∧ RingV wr g m e ro idl now ca we ((dn.filter fun k => !(soE now idl (dt k))) ++ q) dt bk nx ∧ Blk wr ob 65 #[v] ∧ Rows enK wr w0.heap.size w0.heap.size 62 v ((dn.filter fun k => soE now idl (dt k)).map dt) ∧ v.ownBlock ≠ some ob ∧ Chg w wr (fun k => k = m ∨ k ∈ e :: l ∨ w0.heap.size ≤ k) ∧ Blk wr sb 182 #[.func (.func 119) #[] #[.pointer (some ⟨cb, 0, none⟩)]] ∧ Blk wr cb 59 #[.pointer (some ⟨g, 0, none⟩)] ∧ Blk wr tb 59 #[.pointer (some ⟨g, 0, none⟩)])
  case atStart => exact ⟨[], l, nx e, v0, _, bk, nx, rfl, rfl, hv0.out, Nat.le_refl _, h, hob, hrow, by simp [Value.ownBlock], Chg.refl _ _, hs, hcap, ht⟩
  case round =>
  clear h hob hrow c4 e8 ltg lte hs hcap ht
  obtain ⟨dn, q, c, tl, v, bk, nx, rfl, hpq, hq, hgf, h, hob, hrow, hvo, hC, hs, hcap, ht⟩ := hrel
  replace hpq := Lib.hid hpq
  have c4 : wr.cell? ⟨g, 4, none⟩ = some (.pointer (some ⟨e, 0, none⟩)) := h.blk.cellv 4 rfl
  have ltg := h.blk.lt
  have hz := hC.size
  cases q with
  | nil =>
    simp at hq
    obtain ⟨rfl, -⟩ := hq
    have hns := neq_same (w := wr) e
    go_wp2_with fail
    go_end0
    have e1 : l = dn := by have := hpq.out; simpa using this
    rw [List.append_nil] at h
    rw [← e1] at h hrow
    exact ⟨rfl, bk, nx, v, h, hob, hrow, hC⟩
  | cons x q =>
    rw [List.cons_append] at hq
    injection hq with hxc _
    subst hxc
    have hxl : x ∈ l := by rw [hpq.out]; simp
    obtain ⟨p, hp⟩ : ∃ p, p = dn.filter fun k => !(soE now idl (dt k)) := ⟨_, rfl⟩
    obtain ⟨L, hL⟩ : ∃ L, L = (dn.filter fun k => soE now idl (dt k)).map dt := ⟨_, rfl⟩
    rw [← hp] at h
    rw [← hL] at hrow
    have hsub : ∀ k ∈ e :: (p ++ x :: q), k ∈ e :: l := fun k hk => by
      rw [hpq.out]
      rcases List.mem_cons.1 hk with q1 | q1
      · rw [q1]; simp
      · refine List.mem_cons_of_mem _ ?_
        rcases List.mem_append.1 q1 with q1 | q1
        · rw [hp] at q1
          exact List.mem_append_left _ (List.mem_filter.1 q1).1
        · exact List.mem_append_right _ q1
    have hnd := h.nd
    rw [List.nodup_cons] at hnd
    have hxe : x ≠ e := fun q1 => hnd.1 (by rw [← q1]; simp)
    obtain ⟨v1, hv1⟩ := cyc_step h.cyc
    have hx := h.nod x (by simp)
    have x8 : wr.cell? ⟨x, 8, none⟩ = some (.pointer (some ⟨nx x, 0, none⟩)) := hx.cellv 8 rfl
    have ltx := hx.lt
    have hns := neq_other hx (h.nod e (by simp)) hxe
    have hpl : L.length ≤ 1000000 := by
      have h1 := congrArg List.length hpq.out
      rw [List.length_append, List.length_cons] at h1
      have h2 : (dn.filter fun k => soE now idl (dt k)).length ≤ dn.length := List.length_filter_le _ _
      rw [hL, List.length_map]
      omega
    have hst := sweepStepExpire w0  h sb tb ob cb v L hs hcap ht hob hrow (by omega) ⟨hold.1, hold.2.1, fun k hk => hold.2.2 k (hsub k hk)⟩ ⟨hob0.1, hob0.2.1, hob0.2.2.1⟩ hvo hpl hn1 hn2 hn3
    replace hv1 := Lib.hid hv1
    replace hp := Lib.hid hp
    replace hL := Lib.hid hL
    clear hnd
    go_wp2_with (go_at_call 170; refine hst.mono ?_; rintro en w2 ⟨rfl, hsw⟩)
    obtain ⟨p', v2, L', bk2, nx2, h2, hob2, hrow2, hvo2, hC2, hcase⟩ := hsw
    have hkeep : ∀ k, w0.heap.size ≤ k → k ≠ ob → v.ownBlock ≠ some k → ¬ (k = m ∨ k ∈ e :: (p ++ x :: q) ∨ k = ob ∨ v.ownBlock = some k) := fun k h1 h2 h3 q1 => by
      rcases q1 with q1 | q1 | q1 | q1
      · have := hold.2.1; omega
      · have := hold.2.2 k (hsub k q1); omega
      · exact h2 q1
      · exact h3 q1
    have hs2 := hC2.blk hs (hkeep sb hob0.2.2.1 (blk_apart hs hob (by decide)) (own_ne_blk hrow.1 hs (by decide)))
    have hc2 := hC2.blk hcap (hkeep cb hob0.2.2.2 (blk_apart hcap hob (by decide)) (own_ne_blk hrow.1 hcap (by decide)))
    have ht2 := hC2.blk ht (hkeep tb hob0.2.1 (blk_apart ht hob (by decide)) (own_ne_blk hrow.1 ht (by decide)))
    have hlt2 : ∀ k, v.ownBlock = some k → w0.heap.size ≤ k := fun k e1 => (hrow.1.lt k e1).1
    have hCC := hC.trans hC2 (fun i hi q1 => by
      rcases q1 with q1 | q1 | q1 | q1
      · exact .inl q1
      · exact .inr (.inl (hsub i q1))
      · exact .inr (.inr (by omega))
      · exact .inr (.inr (hlt2 i q1)))
    have hpe : p' = (dn ++ [x]).filter (fun k => !(soE now idl (dt k))) ∧ L' = ((dn ++ [x]).filter fun k => soE now idl (dt k)).map dt := by
      rw [List.filter_append, List.filter_append, List.map_append, ← hp.out, ← hL.out]
      rcases hcase with ⟨c1, rfl, rfl⟩ | ⟨c1, rfl, rfl⟩
      · simp [c1]
      · simp [c1]
    rw [hpe.1] at h2
    rw [hpe.2] at hrow2
    go_roundg (q.length + 1)
    case measure => simp at hgf; omega
    case rel => exact ⟨dn ++ [x], q, nx x, v1, v2, bk2, nx2, rfl, by rw [hpq.out]; simp, hv1.out, Nat.le_refl _, h2, hob2, hrow2, hvo2, hCC, hs2, hc2, ht2⟩
end Go.Proofs.Ytejgekoinbdhjaa
