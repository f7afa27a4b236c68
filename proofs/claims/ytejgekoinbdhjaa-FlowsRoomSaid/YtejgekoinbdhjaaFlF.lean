/- flows: Peek, Get. -/
import Derived.Test.YtejgekoinbdhjaaFlE
namespace Go.Proofs.Ytejgekoinbdhjaa
set_option linter.unusedVariables false
open Go Go.RowKit Go.Maps

theorem mem_split {l : List Nat} {x : Nat} (h : x ∈ l) : ∃ p q, l = p ++ x :: q := List.append_of_mem h
/-- one that stands in the ring comes to stand last in it. -/
theorem RingV.relink {w w2 : World} {g m e : Nat} {ro idl now ca we now2 : Int} {p q : List Nat} {dt dt2 : Nat → EnV} {bk nx : Nat → Nat} {x : Nat} (h : RingV w g m e ro idl now ca we (p ++ x :: q) dt bk nx)
    (hC : Chg w w2 (fun k => k = g ∨ k ∈ e :: (p ++ x :: q))) (hg : Blk w2 g 76 (tabC ro idl now2 m e ca we))
    (hN : Nod w2 (e :: (p ++ x :: q)) dt2 (upd (upd (upd bk (nx x) (bk x)) x (upd bk (nx x) (bk x) e)) e x) (upd (upd (upd nx (bk x) (nx x)) x e) (upd bk (nx x) (bk x) e) x))
    (hdt : ∀ k, (dt2 k).fl = (dt k).fl) :
    RingV w2 g m e ro idl now2 ca we (p ++ q ++ [x]) dt2 (upd (upd (upd bk (nx x) (bk x)) x (upd bk (nx x) (bk x) e)) e x) (upd (upd (upd nx (bk x) (nx x)) x e) (upd bk (nx x) (bk x) e) x) := by
  have hmem : ∀ k, k ∈ p ++ q ++ [x] ↔ k ∈ p ++ x :: q := fun k => by simp; constructor <;> (intro h; rcases h with h | h | h <;> simp [h])
  have hperm : (p ++ q ++ [x]).Perm (p ++ x :: q) := by
    rw [List.append_assoc]
    exact (List.perm_append_comm (l₁ := q) (l₂ := [x])).append_left p
  obtain ⟨A, ha, hp⟩ := h.ent
  have hnd := h.nd
  have hnd2 : (e :: (p ++ q)).Nodup := hnd.sublist ((List.Sublist.append (List.Sublist.refl p) (List.sublist_cons_self x q)).cons_cons e)
  have hxn : x ∉ e :: (p ++ q) := by
    rw [List.nodup_cons, List.mem_append, List.mem_cons, List.nodup_append, List.nodup_cons] at hnd
    obtain ⟨n1, n2, ⟨n3, n4⟩, n5⟩ := hnd
    intro hx
    rcases List.mem_cons.1 hx with q1 | q1
    · exact n1 (.inr (.inl q1.symm))
    · rcases List.mem_append.1 q1 with q1 | q1
      · exact n5 x q1 x (by simp) rfl
      · exact n3 q1
  refine ⟨hg, fun k hk => hN k ?_, cyc_last (cyc_out h.cyc h.nd) hnd2 hxn, ?_, ⟨A, ?_, ?_⟩, fun k hk => ?_⟩
  · rcases List.mem_cons.1 hk with q1 | q1
    · rw [q1]; simp
    · exact List.mem_cons_of_mem _ ((hmem k).1 q1)
  · rw [List.nodup_cons] at hnd ⊢
    exact ⟨fun q1 => hnd.1 ((hmem e).1 q1), hperm.nodup_iff.2 hnd.2⟩
  · exact hC.ent ha (fun q1 => q1.elim (fun q1 => h.gm q1.symm) h.mN)
  · refine hp.trans ?_
    have hk2 : keyE dt2 = keyE dt := by funext k; unfold keyE; rw [hdt k]
    rw [hk2]
    exact (hperm.map _).symm
  · rw [hdt k]
    exact h.ok k ((hmem k).1 hk)
/-- what a look-up gives stays so. -/
theorem look_drew {w wq : World} {g m e : Nat} {ro idl now ca we : Int} {l : List Nat} {dt : Nat → EnV} {bk nx : Nat → Nat} (h : RingV w g m e ro idl now ca we l dt bk nx) (f : Flo) (hf : FloOk f) {k : Nat} (hk : k ∈ l) (hkf : (dt k).fl = f) (hb : Below w.heap.size w wq) :
    (Instr.lookup 73 (.map (some m)) (.agg #[.int .i64 f.pr, .int .u32 f.src, .int .u32 f.dst, .int .i64 f.sp, .int .i64 f.dp]) false).run Try.prog wq = .ok (.pointer (some ⟨k, 0, none⟩)) wq := by
  rcases (h.fwd hb).find f hf with ⟨k2, h1, h2, h3⟩ | ⟨h1, _⟩
  · have : k2 = k := by
      obtain ⟨A, ha, hp⟩ := h.ent
      have hn := ha.nodup
      have hn2 : ((l.map (keyE dt)).map Prod.fst).Nodup := (hp.map Prod.fst).nodup_iff.1 hn
      rw [List.map_map] at hn2
      have hinj : ∀ (l : List Nat), (l.map (Prod.fst ∘ keyE dt)).Nodup → ∀ a ∈ l, ∀ b ∈ l, (dt a).fl = (dt b).fl → a = b := by
        intro l
        induction l with
        | nil => intro _ a ha; cases ha
        | cons c l ih =>
          intro hn a ha b hb e1
          rw [List.map_cons, List.nodup_cons] at hn
          rcases List.mem_cons.1 ha with rfl | ha1
          · rcases List.mem_cons.1 hb with rfl | hb1
            · rfl
            · exact (hn.1 (List.mem_map.2 ⟨b, hb1, show floV (dt b).fl = floV (dt a).fl by rw [e1]⟩)).elim
          · rcases List.mem_cons.1 hb with rfl | hb1
            · exact (hn.1 (List.mem_map.2 ⟨a, ha1, show floV (dt a).fl = floV (dt b).fl by rw [e1]⟩)).elim
            · exact ih hn.2 a ha1 b hb1 e1
      exact hinj l hn2 k2 h1 k hk (h2.trans hkf.symm)
    rw [this] at h3
    exact h3
  · exact absurd hkf (h1 k hk)
theorem look_none {w wq : World} {g m e : Nat} {ro idl now ca we : Int} {l : List Nat} {dt : Nat → EnV} {bk nx : Nat → Nat} (h : RingV w g m e ro idl now ca we l dt bk nx) (f : Flo) (hf : FloOk f) (hno : ∀ k ∈ l, (dt k).fl ≠ f) (hb : Below w.heap.size w wq) :
    (Instr.lookup 73 (.map (some m)) (.agg #[.int .i64 f.pr, .int .u32 f.src, .int .u32 f.dst, .int .i64 f.sp, .int .i64 f.dp]) false).run Try.prog wq = .ok (.pointer none) wq := by
  rcases (h.fwd hb).find f hf with ⟨k2, h1, h2, h3⟩ | ⟨_, h3⟩
  · exact absurd h2 (hno k2 h1)
  · exact h3
set_option maxRecDepth 100000 in
set_option maxHeartbeats 4000000 in
theorem getF_miss {w : World} {g m e : Nat} {ro idl now ca we : Int} {dt : Nat → EnV} {bk nx : Nat → Nat} {l : List Nat} (h : RingV w g m e ro idl now ca we l dt bk nx) (f : Flo) (hf : FloOk f) (t : Int) (hno : ∀ k ∈ l, (dt k).fl ≠ f) :
    Calls Try.prog 42 #[.pointer (some ⟨g, 0, none⟩), .agg #[.int .i64 f.pr, .int .u32 f.src, .int .u32 f.dst, .int .i64 f.sp, .int .i64 f.dp], .int .i64 t] w fun en w' => en = .returned (.tuple #[.int .i64 0, .bool false]) ∧ RingV w' g m e ro idl (max now t) ca we l dt bk nx ∧ Chg w w' (fun k => k = g) := by
  have hB := (Below.refl w.heap.size w).alloc (Nat.le_refl _) (.cells #[.int .i64 f.pr, .int .u32 f.src, .int .u32 f.dst, .int .i64 f.sp, .int .i64 f.dp] 57)
  have hf4 := Blk.new w 57 #[.int .i64 f.pr, .int .u32 f.src, .int .u32 f.dst, .int .i64 f.sp, .int .i64 f.dp]
  have h1 := h.fwd hB
  go_enter Try.func42, Try.ntmps42
  go_upto_region 1 with (fail)
  generalize w.alloc (.cells #[.int .i64 f.pr, .int .u32 f.src, .int .u32 f.dst, .int .i64 f.sp, .int .i64 f.dp] 57) = w1 at *
  go_upto_region 4 with (first
    | (go_at_call 113; refine (madeF_in h1).mono ?_; rintro en w' ⟨rfl, rfl⟩)
    | (go_at_call 114; refine (timeF_any h1 t).mono ?_; rintro en w2 ⟨rfl, h2, hC2⟩))
  have hC12 : Chg w w2 (fun k => k = g) := (Chg.of_below hB).trans hC2 (fun _ _ q1 => q1)
  have ltg0 := h.blk.lt
  have hf2 := hC2.blk hf4 (by omega)
  clear hB hf4 h1 hC2
  have c3 : w2.cell? ⟨g, 3, none⟩ = some (.map (some m)) := h2.blk.cellv 3 rfl
  have y0 : w2.cell? ⟨w.heap.size, 0, none⟩ = some (.int .i64 f.pr) := hf2.cellv 0 rfl
  have y1 : w2.cell? ⟨w.heap.size, 1, none⟩ = some (.int .u32 f.src) := hf2.cellv 1 rfl
  have y2 : w2.cell? ⟨w.heap.size, 2, none⟩ = some (.int .u32 f.dst) := hf2.cellv 2 rfl
  have y3 : w2.cell? ⟨w.heap.size, 3, none⟩ = some (.int .i64 f.sp) := hf2.cellv 3 rfl
  have y4 : w2.cell? ⟨w.heap.size, 4, none⟩ = some (.int .i64 f.dp) := hf2.cellv 4 rfl
  have ltg2 := h2.blk.lt
  have ltf2 := hf2.lt
  -- region 4: 0 1 2 3 4 5 6
  try refine wp_region_noPanic ?_
  have hs1r : Below w2.heap.size w2 w2.drew := (Below.refl _ _).drew
  refine wp_region_held_drew (S := fun w' => Below w2.heap.size w2 w') (by kernel_rfl) hs1r (fun _ => ?_)
  (refine held_takeA 0 (by rfl) ?_ (by kernel_rfl) (fun _ _ _ h => h) hs1r ?_ ?_; rotate_left; (focus (intro wq hSw; have hrd : ∀ b o, b < w2.heap.size → wq.cell? ⟨b, o, none⟩ = w2.cell? ⟨b, o, none⟩ := (fun b o h => hSw.cell (p := ⟨b, o, none⟩) h); have hlk := look_none h2 f hf hno hSw; go_simp; try with_reducible rfl; done)); try simp only [Act.put, List.setIfInBounds_toArray, List.set_cons_zero, List.set_cons_succ])
  (refine held_takeA 1 (by rfl) ?_ (by kernel_rfl) (fun _ _ _ h => h) hs1r ?_ ?_; rotate_left; (focus (intro wq hSw; have hrd : ∀ b o, b < w2.heap.size → wq.cell? ⟨b, o, none⟩ = w2.cell? ⟨b, o, none⟩ := (fun b o h => hSw.cell (p := ⟨b, o, none⟩) h); have hlk := look_none h2 f hf hno hSw; go_simp; try with_reducible rfl; done)); try simp only [Act.put, List.setIfInBounds_toArray, List.set_cons_zero, List.set_cons_succ])
  (refine held_takeA 2 (by rfl) ?_ (by kernel_rfl) (fun _ _ _ h => h) hs1r ?_ ?_; rotate_left; (focus (intro wq hSw; have hrd : ∀ b o, b < w2.heap.size → wq.cell? ⟨b, o, none⟩ = w2.cell? ⟨b, o, none⟩ := (fun b o h => hSw.cell (p := ⟨b, o, none⟩) h); have hlk := look_none h2 f hf hno hSw; go_simp; try with_reducible rfl; done)); try simp only [Act.put, List.setIfInBounds_toArray, List.set_cons_zero, List.set_cons_succ])
  (refine held_takeA 3 (by rfl) ?_ (by kernel_rfl) (fun _ _ _ h => h) hs1r ?_ ?_; rotate_left; (focus (intro wq hSw; have hrd : ∀ b o, b < w2.heap.size → wq.cell? ⟨b, o, none⟩ = w2.cell? ⟨b, o, none⟩ := (fun b o h => hSw.cell (p := ⟨b, o, none⟩) h); have hlk := look_none h2 f hf hno hSw; go_simp; try with_reducible rfl; done)); try simp only [Act.put, List.setIfInBounds_toArray, List.set_cons_zero, List.set_cons_succ])
  (refine held_takeA 4 (by rfl) ?_ (by kernel_rfl) (fun _ _ _ h => h) hs1r ?_ ?_; rotate_left; (focus (intro wq hSw; have hrd : ∀ b o, b < w2.heap.size → wq.cell? ⟨b, o, none⟩ = w2.cell? ⟨b, o, none⟩ := (fun b o h => hSw.cell (p := ⟨b, o, none⟩) h); have hlk := look_none h2 f hf hno hSw; go_simp; try with_reducible rfl; done)); try simp only [Act.put, List.setIfInBounds_toArray, List.set_cons_zero, List.set_cons_succ])
  (refine held_takeA 5 (by rfl) ?_ (by kernel_rfl) (fun _ _ _ h => h) hs1r ?_ ?_; rotate_left; (focus (intro wq hSw; have hrd : ∀ b o, b < w2.heap.size → wq.cell? ⟨b, o, none⟩ = w2.cell? ⟨b, o, none⟩ := (fun b o h => hSw.cell (p := ⟨b, o, none⟩) h); have hlk := look_none h2 f hf hno hSw; go_simp; try with_reducible rfl; done)); try simp only [Act.put, List.setIfInBounds_toArray, List.set_cons_zero, List.set_cons_succ])
  (refine held_takeA 6 (by rfl) ?_ (by kernel_rfl) (fun _ _ _ h => h) hs1r ?_ ?_; rotate_left; (focus (intro wq hSw; have hrd : ∀ b o, b < w2.heap.size → wq.cell? ⟨b, o, none⟩ = w2.cell? ⟨b, o, none⟩ := (fun b o h => hSw.cell (p := ⟨b, o, none⟩) h); have hlk := look_none h2 f hf hno hSw; go_simp; try with_reducible rfl; done)); try simp only [Act.put, List.setIfInBounds_toArray, List.set_cons_zero, List.set_cons_succ])
  refine wpAnyH_done (by kernel_rfl) ?_ _
  try refine NoPanic.normal ?_
  go_wp2_with fail
  go_ret2
  exact ⟨rfl, h2.fwd (Below.refl _ _).drew, hC12.trans (Chg.of_below (X := fun _ => False) (Below.refl _ _).drew) (fun _ _ q1 => q1.elim)⟩
/-- ahead of one and behind it stand those of the ring. -/
theorem RingV.bx {w : World} {g m e : Nat} {ro idl now ca we : Int} {dt : Nat → EnV} {bk nx : Nat → Nat} {p q : List Nat} {x : Nat} (h : RingV w g m e ro idl now ca we (p ++ x :: q) dt bk nx) : bk x ∈ e :: (p ++ x :: q) ∧ nx x ∈ e :: (p ++ x :: q) ∧ upd bk (nx x) (bk x) e ∈ e :: (p ++ x :: q) ∧ x ∈ e :: (p ++ x :: q) ∧ x ≠ e := by
  obtain ⟨⟨u, hu⟩, v, hv⟩ := cyc_at h.cyc
  have h1 : bk x ∈ e :: (p ++ x :: q) := by
    have : bk x ∈ e :: p := by rw [hu]; simp
    rcases List.mem_cons.1 this with q1 | q1
    · rw [q1]; simp
    · exact List.mem_cons_of_mem _ (List.mem_append_left _ q1)
  have h2 : nx x ∈ e :: (p ++ x :: q) := by
    have : nx x ∈ q ++ [e] := by rw [hv]; simp
    rcases List.mem_append.1 this with q1 | q1
    · exact List.mem_cons_of_mem _ (List.mem_append_right _ (List.mem_cons_of_mem _ q1))
    · rw [List.mem_singleton] at q1; rw [q1]; simp
  refine ⟨h1, h2, ?_, by simp, fun e1 => ?_⟩
  · by_cases e1 : e = nx x
    · rw [← e1, upd_same]; exact h1
    · rw [upd_other _ _ e1]
      obtain ⟨u2, hu2⟩ := cyc_back h.cyc
      rw [hu2]; simp
  · have hnd := h.nd
    rw [List.nodup_cons] at hnd
    exact hnd.1 (e1 ▸ List.mem_append_right _ (List.mem_cons_self))
def lastB (bk nx : Nat → Nat) (e x : Nat) : Nat → Nat := upd (upd (upd bk (nx x) (bk x)) x (upd bk (nx x) (bk x) e)) e x
def lastX (bk nx : Nat → Nat) (e x : Nat) : Nat → Nat := upd (upd (upd nx (bk x) (nx x)) x e) (upd bk (nx x) (bk x) e) x
set_option maxRecDepth 100000 in
set_option maxHeartbeats 4000000 in
theorem getF_hit {w : World} {g m e : Nat} {ro idl now ca we : Int} {dt : Nat → EnV} {bk nx : Nat → Nat} {p q : List Nat} {x : Nat} (h : RingV w g m e ro idl now ca we (p ++ x :: q) dt bk nx) (f : Flo) (hf : FloOk f) (t : Int) (hxf : (dt x).fl = f) :
    Calls Try.prog 42 #[.pointer (some ⟨g, 0, none⟩), .agg #[.int .i64 f.pr, .int .u32 f.src, .int .u32 f.dst, .int .i64 f.sp, .int .i64 f.dp], .int .i64 t] w fun en w' => en = .returned (.tuple #[.int .i64 (dt x).be, .bool true]) ∧ RingV w' g m e ro idl (max now t) ca we (p ++ q ++ [x]) (upd dt x { dt x with la := max now t }) (lastB bk nx e x) (lastX bk nx e x) ∧ Chg w w' (fun k => k = g ∨ k ∈ e :: (p ++ x :: q)) := by
  have hB := (Below.refl w.heap.size w).alloc (Nat.le_refl _) (.cells #[.int .i64 f.pr, .int .u32 f.src, .int .u32 f.dst, .int .i64 f.sp, .int .i64 f.dp] 57)
  have hf4 := Blk.new w 57 #[.int .i64 f.pr, .int .u32 f.src, .int .u32 f.dst, .int .i64 f.sp, .int .i64 f.dp]
  have h1 := h.fwd hB
  go_enter Try.func42, Try.ntmps42
  go_upto_region 1 with (fail)
  generalize w.alloc (.cells #[.int .i64 f.pr, .int .u32 f.src, .int .u32 f.dst, .int .i64 f.sp, .int .i64 f.dp] 57) = w1 at *
  go_upto_region 4 with (first
    | (go_at_call 113; refine (madeF_in h1).mono ?_; rintro en w' ⟨rfl, rfl⟩)
    | (go_at_call 114; refine (timeF_any h1 t).mono ?_; rintro en w2 ⟨rfl, h2, hC2⟩))
  have hC12 : Chg w w2 (fun k => k = g) := (Chg.of_below hB).trans hC2 (fun _ _ q1 => q1)
  have ltg0 := h.blk.lt
  have hf2 := hC2.blk hf4 (by omega)
  clear hB hf4 h1 hC2
  have c3 : w2.cell? ⟨g, 3, none⟩ = some (.map (some m)) := h2.blk.cellv 3 rfl
  have y0 : w2.cell? ⟨w.heap.size, 0, none⟩ = some (.int .i64 f.pr) := hf2.cellv 0 rfl
  have y1 : w2.cell? ⟨w.heap.size, 1, none⟩ = some (.int .u32 f.src) := hf2.cellv 1 rfl
  have y2 : w2.cell? ⟨w.heap.size, 2, none⟩ = some (.int .u32 f.dst) := hf2.cellv 2 rfl
  have y3 : w2.cell? ⟨w.heap.size, 3, none⟩ = some (.int .i64 f.sp) := hf2.cellv 3 rfl
  have y4 : w2.cell? ⟨w.heap.size, 4, none⟩ = some (.int .i64 f.dp) := hf2.cellv 4 rfl
  have ltg2 := h2.blk.lt
  have ltf2 := hf2.lt
  have hl0 := h.lt.2.2
  -- region 4: 0 1 2 3 4 5 6
  try refine wp_region_noPanic ?_
  have hs2r : Below w2.heap.size w2 w2.drew := (Below.refl _ _).drew
  refine wp_region_held_drew (S := fun w' => Below w2.heap.size w2 w') (by kernel_rfl) hs2r (fun _ => ?_)
  (refine held_takeA 0 (by rfl) ?_ (by kernel_rfl) (fun _ _ _ h => h) hs2r ?_ ?_; rotate_left; (focus (intro wq hSw; have hrd : ∀ b o, b < w2.heap.size → wq.cell? ⟨b, o, none⟩ = w2.cell? ⟨b, o, none⟩ := (fun b o h => hSw.cell (p := ⟨b, o, none⟩) h); have hlk := look_drew h2 f hf (show x ∈ p ++ x :: q by simp) hxf hSw; go_simp; try with_reducible rfl; done)); try simp only [Act.put, List.setIfInBounds_toArray, List.set_cons_zero, List.set_cons_succ])
  (refine held_takeA 1 (by rfl) ?_ (by kernel_rfl) (fun _ _ _ h => h) hs2r ?_ ?_; rotate_left; (focus (intro wq hSw; have hrd : ∀ b o, b < w2.heap.size → wq.cell? ⟨b, o, none⟩ = w2.cell? ⟨b, o, none⟩ := (fun b o h => hSw.cell (p := ⟨b, o, none⟩) h); have hlk := look_drew h2 f hf (show x ∈ p ++ x :: q by simp) hxf hSw; go_simp; try with_reducible rfl; done)); try simp only [Act.put, List.setIfInBounds_toArray, List.set_cons_zero, List.set_cons_succ])
  (refine held_takeA 2 (by rfl) ?_ (by kernel_rfl) (fun _ _ _ h => h) hs2r ?_ ?_; rotate_left; (focus (intro wq hSw; have hrd : ∀ b o, b < w2.heap.size → wq.cell? ⟨b, o, none⟩ = w2.cell? ⟨b, o, none⟩ := (fun b o h => hSw.cell (p := ⟨b, o, none⟩) h); have hlk := look_drew h2 f hf (show x ∈ p ++ x :: q by simp) hxf hSw; go_simp; try with_reducible rfl; done)); try simp only [Act.put, List.setIfInBounds_toArray, List.set_cons_zero, List.set_cons_succ])
  (refine held_takeA 3 (by rfl) ?_ (by kernel_rfl) (fun _ _ _ h => h) hs2r ?_ ?_; rotate_left; (focus (intro wq hSw; have hrd : ∀ b o, b < w2.heap.size → wq.cell? ⟨b, o, none⟩ = w2.cell? ⟨b, o, none⟩ := (fun b o h => hSw.cell (p := ⟨b, o, none⟩) h); have hlk := look_drew h2 f hf (show x ∈ p ++ x :: q by simp) hxf hSw; go_simp; try with_reducible rfl; done)); try simp only [Act.put, List.setIfInBounds_toArray, List.set_cons_zero, List.set_cons_succ])
  (refine held_takeA 4 (by rfl) ?_ (by kernel_rfl) (fun _ _ _ h => h) hs2r ?_ ?_; rotate_left; (focus (intro wq hSw; have hrd : ∀ b o, b < w2.heap.size → wq.cell? ⟨b, o, none⟩ = w2.cell? ⟨b, o, none⟩ := (fun b o h => hSw.cell (p := ⟨b, o, none⟩) h); have hlk := look_drew h2 f hf (show x ∈ p ++ x :: q by simp) hxf hSw; go_simp; try with_reducible rfl; done)); try simp only [Act.put, List.setIfInBounds_toArray, List.set_cons_zero, List.set_cons_succ])
  (refine held_takeA 5 (by rfl) ?_ (by kernel_rfl) (fun _ _ _ h => h) hs2r ?_ ?_; rotate_left; (focus (intro wq hSw; have hrd : ∀ b o, b < w2.heap.size → wq.cell? ⟨b, o, none⟩ = w2.cell? ⟨b, o, none⟩ := (fun b o h => hSw.cell (p := ⟨b, o, none⟩) h); have hlk := look_drew h2 f hf (show x ∈ p ++ x :: q by simp) hxf hSw; go_simp; try with_reducible rfl; done)); try simp only [Act.put, List.setIfInBounds_toArray, List.set_cons_zero, List.set_cons_succ])
  (refine held_takeA 6 (by rfl) ?_ (by kernel_rfl) (fun _ _ _ h => h) hs2r ?_ ?_; rotate_left; (focus (intro wq hSw; have hrd : ∀ b o, b < w2.heap.size → wq.cell? ⟨b, o, none⟩ = w2.cell? ⟨b, o, none⟩ := (fun b o h => hSw.cell (p := ⟨b, o, none⟩) h); have hlk := look_drew h2 f hf (show x ∈ p ++ x :: q by simp) hxf hSw; go_simp; try with_reducible rfl; done)); try simp only [Act.put, List.setIfInBounds_toArray, List.set_cons_zero, List.set_cons_succ])
  refine wpAnyH_done (by kernel_rfl) ?_ _
  try refine NoPanic.normal ?_
  have h3 := h2.fwd (Below.refl _ _).drew
  have hC13 : Chg w w2.drew (fun k => k = g ∨ k ∈ e :: (p ++ x :: q)) := (hC12.mono (fun i hi q1 => (.inl q1 : i = g ∨ i ∈ e :: (p ++ x :: q)))).trans (Chg.of_below (X := fun _ => False) (Below.refl _ _).drew) (fun _ _ q1 => q1.elim)
  clear hf2 y0 y1 y2 y3 y4 ltf2 c3 ltg2 h2 hC12
  generalize w2.drew = w3 at *
  obtain ⟨b1, b2, b3, b4, b5⟩ := h3.bx
  have hgN := h3.gN
  go_upto_region 9 with (first
    | (go_at_call 116; refine (out_any w3 _ dt bk nx h3.nod x b4 b1 b2).mono ?_; rintro en w4 ⟨rfl, hN4, hC4⟩; have hg4 := hC4.blk h3.blk hgN)
    | (go_at_call 117; refine (last_any w4 g ro idl (max now t) m e ca we hg4 _ dt _ _ hN4 x b4 (by simp) b3 b5).mono ?_; rintro en w5 ⟨rfl, hN5, hC5⟩))
  have hC35 := hC4.trans hC5 (fun _ _ q1 => q1)
  have h5 := h3.relink (hC35.mono fun i hi q1 => .inr q1) (hC5.blk hg4 hgN) hN5 (fun k => by
    by_cases e1 : k = x
    · rw [e1, upd_same]
    · rw [upd_other _ _ e1])
  have c5 : w5.cell? ⟨x, 5, none⟩ = some (.int .i64 (dt x).be) := by
    have q1 := (hN5 x b4).cellv 5 (v := .int .i64 ((upd dt x { dt x with la := max now t }) x).be) rfl
    rw [upd_same] at q1
    exact q1
  have ltx := (hN5 x b4).lt
  go_wp2_with fail
  go_ret2
  exact ⟨rfl, h5, hC13.trans hC35 (fun i hi q1 => .inr q1)⟩
end Go.Proofs.Ytejgekoinbdhjaa
