import Derived.Test.YtgdeecmhhbdjgaaGreatMVipActs37
/- vip: one act on both. -/
namespace Go.Proofs.YtgdeecmhhbdjgaaGreat
set_option linter.unusedVariables false
open Go Go.RowKit Go.Maps

structure ActW where
  k : Int
  id : Int
  n : Int
  on : Bool
  sm : Bool
def actS (s : VpS) (a : ActW) : VpS :=
  if a.k = 0 then (resS s a.id a.on).2 else if a.k = 1 then (resS s a.id false).2 else if a.k = 2 then tickS s a.sm else if a.k = 3 then lookS s a.sm else if a.k = 4 then { s with M := (drainR s.M a.id a.on).2 } else if a.k = 5 then { s with M := (weighR s.M a.id a.n).2 } else if a.k = 6 then { s with on := a.on } else s
def actRv (s : RvS) (a : ActW) : RvS :=
  if a.k = 0 then (resR s a.id a.on).2 else if a.k = 1 then (resR s a.id false).2 else if a.k = 2 then tickRR s a.sm else if a.k = 3 then lookR s a.sm else if a.k = 4 then { s with L := (drainR s.L a.id a.on).2 } else if a.k = 5 then { s with L := (weighR s.L a.id a.n).2 } else if a.k = 6 then { s with on := a.on } else s
def actQ (s : VpS) (r : RvS) (a : ActW) : Bool :=
  if a.k = 0 then (resS s a.id a.on).1 == (resR r a.id a.on).1 else if a.k = 1 then (resS s a.id false).1 == (resR r a.id false).1 else if a.k = 2 then wantS (tickD s) a.sm == wantR (tickR r) a.sm else if a.k = 3 then wantS s a.sm == wantR r a.sm
  else if a.k = 4 then (drainR s.M a.id a.on).1 == (drainR r.L a.id a.on).1 else if a.k = 5 then (weighR s.M a.id a.n).1 == (weighR r.L a.id a.n).1 else if a.k = 6 then (s.on != a.on) == (r.on != a.on) else true
theorem resS_ids (s : VpS) (i : Int) (ok : Bool) : idsM (resS s i ok).2.M = idsM s.M := by
  unfold resS
  split
  · split
    · exact mark_ids _ _ _
    · rfl
  · rfl
theorem lookS_M (s : VpS) (b : Bool) : (lookS s b).M = s.M := by
  unfold lookS
  split <;> rfl
theorem actS_ids (s : VpS) (a : ActW) : idsM (actS s a).M = idsM s.M := by
  unfold actS
  split
  · exact resS_ids _ _ _
  · split
    · exact resS_ids _ _ _
    · split
      · exact congrArg idsM (lookS_M _ _)
      · split
        · exact congrArg idsM (lookS_M _ _)
        · split
          · exact drain_ids _ _ _
          · split
            · exact weigh_ids _ _ _
            · split <;> rfl
theorem foot_gd {g d p pb m k : Nat} {XF : Nat → Prop} {kb : Int → Nat} {l : List Int} (q : k = g ∨ k = d) : Foot g d p pb m XF kb l k := q.elim .inl fun q => .inr (.inl q)
theorem actS_good {s : VpS} (h : GoodV s) (a : ActW) : GoodV (actS s a) := by
  unfold actS
  split
  · exact resS_good h
  · split
    · exact resS_good h
    · split
      · exact h.tick.look _
      · split
        · exact h.look _
        · split
          · exact ⟨h.dg, h.pe0, h.pe1, drain_mem h.mem _ _, h.ri, h.fa, by show ∀ i ∈ idsM (drainR s.M a.id a.on).2, _; rw [drain_ids]; exact h.run⟩
          · split
            · exact ⟨h.dg, h.pe0, h.pe1, weigh_mem h.mem _ _, h.ri, h.fa, by show ∀ i ∈ idsM (weighR s.M a.id a.n).2, _; rw [weigh_ids]; exact h.run⟩
            · split
              · exact ⟨h.dg, h.pe0, h.pe1, h.mem, h.ri, h.fa, h.run⟩
              · exact h
set_option maxRecDepth 100000 in
set_option maxHeartbeats 16000000 in
theorem act33_0 (w : World) (X Y D : Nat → Prop) (g gr : Nat) (s : VpS) (r : RvS) (a : ActW) (hT : VipT w X g s) (hM : RvT w Y D gr r) (hG : GoodV s) (hH : GoodR r) (hX : ∀ k, X k → Y k ∧ ¬ D k) (hE : r.E.length ≤ 1000000) (i0 : -9223372036854775808 ≤ a.id) (i1 : a.id ≤ 9223372036854775807) (hk : a.k = 0) : Calls Tryz.prog 41 #[.pointer (some ⟨g, 0, none⟩), .pointer (some ⟨gr, 0, none⟩), .agg #[.int .i64 a.k, .int .i64 a.id, .int .i64 a.n, .bool a.on, .bool a.sm]] w fun e w' => e = .returned (.bool (actQ s r a)) ∧ VipT w' X g (actS s a) ∧ RvT w' Y D gr (actRv r a) ∧ Chg w w' (fun k => X k ∨ D k) := by
  have eQ : actQ s r a = ((resS s a.id a.on).1 == (resR r a.id a.on).1) := by unfold actQ; simp [hk]
  have eS : actS s a = (resS s a.id a.on).2 := by unfold actS; simp [hk]
  have eR : actRv r a = (resR r a.id a.on).2 := by unfold actRv; simp [hk]
  have hids := actS_ids s a
  rw [eS] at hids
  rw [eQ, eS, eR]
  clear eQ eS eR
  have hb := (Below.refl w.heap.size w).alloc (Nat.le_refl _) (.cells #[.int .i64 a.k, .int .i64 a.id, .int .i64 a.n, .bool a.on, .bool a.sm] 52)
  have hq := Blk.new w 52 #[.int .i64 a.k, .int .i64 a.id, .int .i64 a.n, .bool a.on, .bool a.sm]
  have hlX := hT.lt
  have hT1 := hT.nx hb
  obtain ⟨p, f, A, c, hM1⟩ := hM
  have hlY := hM1.lim
  have hDY := hM1.dY
  have hbX : ¬ (X w.heap.size ∨ D w.heap.size) := fun q => q.elim (fun q => by have := hlX _ q; omega) fun q => by have := hlY _ (hDY _ q); omega
  have hM1 := hM1.nx hb
  obtain ⟨d, p0, pb, f0, m, XF, kb, hR, hXf, hXl⟩ := hT1
  clear hT
  replace hk := Lib.hid hk
  go_enter Tryz.func41, Tryz.ntmps41
  go_upto_region 1 with (fail)
  generalize w.alloc (.cells #[.int .i64 a.k, .int .i64 a.id, .int .i64 a.n, .bool a.on, .bool a.sm] 52) = w1 at *
  have a0 : w1.cell? ⟨w.heap.size, 0, none⟩ = some (.int .i64 0) := by rw [← hk.out]; exact hq.cellv 0 rfl
  have a1 : w1.cell? ⟨w.heap.size, 1, none⟩ = some (.int .i64 a.id) := hq.cellv 1 rfl
  have a3 : w1.cell? ⟨w.heap.size, 3, none⟩ = some (.bool a.on) := hq.cellv 3 rfl
  have lta := hq.lt
  go_upto_region 3 with (fail)
  have hS1 : Chg w1 w1.drew (fun k => X k ∨ D k) := Chg.of_below (Below.refl _ _).drew
  try refine wp_region_noPanic ?_
  have hs1r : (fun w' => Chg w1 w' (fun k => X k ∨ D k)) w1.drew := Chg.of_below (Below.refl _ _).drew
  refine wp_region_held_drew (S := fun w' => Chg w1 w' (fun k => X k ∨ D k)) (by kernel_rfl) hs1r (fun _ => ?_)
  (refine held_takeA 0 (by rfl) ?_ (by kernel_rfl) (fun _ _ _ h => h) hs1r ?_ ?_; rotate_left; (focus (intro wq hSw; have hrd := hSw; have r1 : wq.cell? ⟨w.heap.size, 1, none⟩ = some (.int .i64 a.id) := (Chg.cell hSw (p := ⟨w.heap.size, 1, none⟩) lta hbX).trans a1; have r3 : wq.cell? ⟨w.heap.size, 3, none⟩ = some (.bool a.on) := (Chg.cell hSw (p := ⟨w.heap.size, 3, none⟩) lta hbX).trans a3; go_simp; try with_reducible rfl; done)); try simp only [Act.put, zA, zB, zC])
  (refine held_takeA 1 (by rfl) ?_ (by kernel_rfl) (fun _ _ _ h => h) hs1r ?_ ?_; rotate_left; (focus (intro wq hSw; have hrd := hSw; have r1 : wq.cell? ⟨w.heap.size, 1, none⟩ = some (.int .i64 a.id) := (Chg.cell hSw (p := ⟨w.heap.size, 1, none⟩) lta hbX).trans a1; have r3 : wq.cell? ⟨w.heap.size, 3, none⟩ = some (.bool a.on) := (Chg.cell hSw (p := ⟨w.heap.size, 3, none⟩) lta hbX).trans a3; go_simp; try with_reducible rfl; done)); try simp only [Act.put, zA, zB, zC])
  (refine held_takeA 2 (by rfl) ?_ (by kernel_rfl) (fun _ _ _ h => h) hs1r ?_ ?_; rotate_left; (focus (intro wq hSw; have hrd := hSw; have r1 : wq.cell? ⟨w.heap.size, 1, none⟩ = some (.int .i64 a.id) := (Chg.cell hSw (p := ⟨w.heap.size, 1, none⟩) lta hbX).trans a1; have r3 : wq.cell? ⟨w.heap.size, 3, none⟩ = some (.bool a.on) := (Chg.cell hSw (p := ⟨w.heap.size, 3, none⟩) lta hbX).trans a3; go_simp; try with_reducible rfl; done)); try simp only [Act.put, zA, zB, zC])
  (refine held_takeA 3 (by rfl) ?_ (by kernel_rfl) (fun _ _ _ h => h) hs1r ?_ ?_; rotate_left; (focus (intro wq hSw; have hrd := hSw; have r1 : wq.cell? ⟨w.heap.size, 1, none⟩ = some (.int .i64 a.id) := (Chg.cell hSw (p := ⟨w.heap.size, 1, none⟩) lta hbX).trans a1; have r3 : wq.cell? ⟨w.heap.size, 3, none⟩ = some (.bool a.on) := (Chg.cell hSw (p := ⟨w.heap.size, 3, none⟩) lta hbX).trans a3; go_simp; try with_reducible rfl; done)); try simp only [Act.put, zA, zB, zC])
  (refine held_takeA 4 (by rfl) ?_ (by kernel_rfl) (fun _ _ _ h => h) hs1r ?_ ?_; rotate_left; (focus (intro wq hSw; have hrd := hSw; have r1 : wq.cell? ⟨w.heap.size, 1, none⟩ = some (.int .i64 a.id) := (Chg.cell hSw (p := ⟨w.heap.size, 1, none⟩) lta hbX).trans a1; have r3 : wq.cell? ⟨w.heap.size, 3, none⟩ = some (.bool a.on) := (Chg.cell hSw (p := ⟨w.heap.size, 3, none⟩) lta hbX).trans a3; go_simp; try with_reducible rfl; done)); try simp only [Act.put, zA, zB, zC])
  (refine held_takeA 6 (by rfl) ?_ (by kernel_rfl) (fun _ _ _ h => h) hs1r ?_ ?_; rotate_left; (focus (intro wq hSw; have hrd := hSw; have r1 : wq.cell? ⟨w.heap.size, 1, none⟩ = some (.int .i64 a.id) := (Chg.cell hSw (p := ⟨w.heap.size, 1, none⟩) lta hbX).trans a1; have r3 : wq.cell? ⟨w.heap.size, 3, none⟩ = some (.bool a.on) := (Chg.cell hSw (p := ⟨w.heap.size, 3, none⟩) lta hbX).trans a3; go_simp; try with_reducible rfl; done)); try simp only [Act.put, zA, zB, zC])
  (refine held_takeA 7 (by rfl) ?_ (by kernel_rfl) (fun _ _ _ h => h) hs1r ?_ ?_; rotate_left; (focus (intro wq hSw; have hrd := hSw; have r1 : wq.cell? ⟨w.heap.size, 1, none⟩ = some (.int .i64 a.id) := (Chg.cell hSw (p := ⟨w.heap.size, 1, none⟩) lta hbX).trans a1; have r3 : wq.cell? ⟨w.heap.size, 3, none⟩ = some (.bool a.on) := (Chg.cell hSw (p := ⟨w.heap.size, 3, none⟩) lta hbX).trans a3; go_simp; try with_reducible rfl; done)); try simp only [Act.put, zA, zB, zC])
  (refine held_takeA 8 (by rfl) ?_ (by kernel_rfl) (fun _ _ _ h => h) hs1r ?_ ?_; rotate_left; (focus (intro wq hSw; have hrd := hSw; have r1 : wq.cell? ⟨w.heap.size, 1, none⟩ = some (.int .i64 a.id) := (Chg.cell hSw (p := ⟨w.heap.size, 1, none⟩) lta hbX).trans a1; have r3 : wq.cell? ⟨w.heap.size, 3, none⟩ = some (.bool a.on) := (Chg.cell hSw (p := ⟨w.heap.size, 3, none⟩) lta hbX).trans a3; go_simp; try with_reducible rfl; done)); try simp only [Act.put, zA, zB, zC])
  (refine held_takeA 9 (by rfl) ?_ (by kernel_rfl) (fun _ _ _ h => h) hs1r ?_ ?_; rotate_left; (focus (intro wq hSw; have hrd := hSw; have r1 : wq.cell? ⟨w.heap.size, 1, none⟩ = some (.int .i64 a.id) := (Chg.cell hSw (p := ⟨w.heap.size, 1, none⟩) lta hbX).trans a1; have r3 : wq.cell? ⟨w.heap.size, 3, none⟩ = some (.bool a.on) := (Chg.cell hSw (p := ⟨w.heap.size, 3, none⟩) lta hbX).trans a3; go_simp; try with_reducible rfl; done)); try simp only [Act.put, zA, zB, zC])
  (refine held_takeA 10 (by rfl) ?_ (by kernel_rfl) (fun _ _ _ h => h) hs1r ?_ ?_; rotate_left; (focus (intro wq hSw; have hrd := hSw; have r1 : wq.cell? ⟨w.heap.size, 1, none⟩ = some (.int .i64 a.id) := (Chg.cell hSw (p := ⟨w.heap.size, 1, none⟩) lta hbX).trans a1; have r3 : wq.cell? ⟨w.heap.size, 3, none⟩ = some (.bool a.on) := (Chg.cell hSw (p := ⟨w.heap.size, 3, none⟩) lta hbX).trans a3; go_simp; try with_reducible rfl; done)); try simp only [Act.put, zA, zB, zC])
  refine held_callA 5 (by rfl) (by kernel_rfl) (by rfl) (fun KQ hKQ => ?_)
  go_simp
  have hR : VipR w1.drew g d p0 pb f0 m XF kb s := hR.nx (Below.refl _ _).drew
  refine (vpResult hR hG a.id a.on i0 i1).mono ?_
  rintro en w2 ⟨rfl, hR2, hC2⟩
  have hZ2 : Chg w1 w2 (fun k => X k ∨ D k) := hS1.trans hC2 (fun k _ q => .inl (hXf k q))
  have hCX : Chg w1.drew w2 X := hC2.mono fun k _ q => (fun (k : Nat) (_ : True) q => (hXf k q)) k trivial q
  have hs2r := hZ2
  refine hKQ.out _ _ hs2r ?_
  clear hKQ KQ
  try simp only [Act.put, zA, zB, zC]
  have hm : RvR w2 Y D gr p f A c r := (hM1.nx (Below.refl _ _).drew).keep hCX hX
  refine held_callA 11 (by rfl) (by kernel_rfl) (by rfl) (fun KQ hKQ => ?_)
  go_simp
  refine (rvResult hm hH a.id a.on hE).mono ?_
  rintro en w3 ⟨rfl, hm3, hC3⟩
  skip
  skip
  have hZ3 := hZ2.trans hC3 (fun k _ q => .inr q)
  have hZ9 : Chg w1 w3 (fun k => X k ∨ D k) := hZ3
  have hk3 : ∀ k, D k → ¬ Foot g d p0 pb m XF kb (idsM s.M) k := fun k e q => (hX k (hXf k q)).2 e
  have hs3r := hZ3
  refine hKQ.out _ _ hs3r ?_
  clear hKQ KQ
  try simp only [Act.put, zA, zB, zC]
  (refine held_takeA 12 (by rfl) ?_ (by kernel_rfl) (fun _ _ _ h => h) hs3r ?_ ?_; rotate_left; (focus (intro wq hSw; have hrd := hSw; have r1 : wq.cell? ⟨w.heap.size, 1, none⟩ = some (.int .i64 a.id) := (Chg.cell hSw (p := ⟨w.heap.size, 1, none⟩) lta hbX).trans a1; have r3 : wq.cell? ⟨w.heap.size, 3, none⟩ = some (.bool a.on) := (Chg.cell hSw (p := ⟨w.heap.size, 3, none⟩) lta hbX).trans a3; go_simp; try with_reducible rfl; done)); try simp only [Act.put, zA, zB, zC])
  (refine held_takeA 13 (by rfl) ?_ (by kernel_rfl) (fun _ _ _ h => h) hs3r ?_ ?_; rotate_left; (focus (intro wq hSw; have hrd := hSw; have r1 : wq.cell? ⟨w.heap.size, 1, none⟩ = some (.int .i64 a.id) := (Chg.cell hSw (p := ⟨w.heap.size, 1, none⟩) lta hbX).trans a1; have r3 : wq.cell? ⟨w.heap.size, 3, none⟩ = some (.bool a.on) := (Chg.cell hSw (p := ⟨w.heap.size, 3, none⟩) lta hbX).trans a3; go_simp; try with_reducible rfl; done)); try simp only [Act.put, zA, zB, zC])
  refine wpAnyH_done (by kernel_rfl) ?_ _
  try refine NoPanic.normal ?_
  have hR3 := hR2.keep hC3 (fun k q y => hk3 k y (by rw [hids] at q; exact q))
  have hV3 := VipT.of (w0 := w) (X := X) hR3 hids hXf (fun _ q => q) hlX (by have := hZ9.size; have := hb.size; omega)
  have hB9 : Chg w w3 (fun k => X k ∨ D k) := (Chg.of_below (X := fun k => X k ∨ D k) hb).trans hZ9 fun _ _ q => q
  clear hR hR2 hR3 hM1 hm hC2 hC3 hZ2 hZ3 hZ9 hCX hS1
  go_wp2_with fail
  go_ret
  exact ⟨rfl, hV3, hm3, hB9⟩
set_option maxRecDepth 100000 in
set_option maxHeartbeats 16000000 in
theorem act33_1 (w : World) (X Y D : Nat → Prop) (g gr : Nat) (s : VpS) (r : RvS) (a : ActW) (hT : VipT w X g s) (hM : RvT w Y D gr r) (hG : GoodV s) (hH : GoodR r) (hX : ∀ k, X k → Y k ∧ ¬ D k) (hE : r.E.length ≤ 1000000) (i0 : -9223372036854775808 ≤ a.id) (i1 : a.id ≤ 9223372036854775807) (hk : a.k = 1) : Calls Tryz.prog 41 #[.pointer (some ⟨g, 0, none⟩), .pointer (some ⟨gr, 0, none⟩), .agg #[.int .i64 a.k, .int .i64 a.id, .int .i64 a.n, .bool a.on, .bool a.sm]] w fun e w' => e = .returned (.bool (actQ s r a)) ∧ VipT w' X g (actS s a) ∧ RvT w' Y D gr (actRv r a) ∧ Chg w w' (fun k => X k ∨ D k) := by
  have eQ : actQ s r a = ((resS s a.id false).1 == (resR r a.id false).1) := by unfold actQ; simp [hk]
  have eS : actS s a = (resS s a.id false).2 := by unfold actS; simp [hk]
  have eR : actRv r a = (resR r a.id false).2 := by unfold actRv; simp [hk]
  have hids := actS_ids s a
  rw [eS] at hids
  rw [eQ, eS, eR]
  clear eQ eS eR
  have hb := (Below.refl w.heap.size w).alloc (Nat.le_refl _) (.cells #[.int .i64 a.k, .int .i64 a.id, .int .i64 a.n, .bool a.on, .bool a.sm] 52)
  have hq := Blk.new w 52 #[.int .i64 a.k, .int .i64 a.id, .int .i64 a.n, .bool a.on, .bool a.sm]
  have hlX := hT.lt
  have hT1 := hT.nx hb
  obtain ⟨p, f, A, c, hM1⟩ := hM
  have hlY := hM1.lim
  have hDY := hM1.dY
  have hbX : ¬ (X w.heap.size ∨ D w.heap.size) := fun q => q.elim (fun q => by have := hlX _ q; omega) fun q => by have := hlY _ (hDY _ q); omega
  have hM1 := hM1.nx hb
  obtain ⟨d, p0, pb, f0, m, XF, kb, hR, hXf, hXl⟩ := hT1
  clear hT
  replace hk := Lib.hid hk
  go_enter Tryz.func41, Tryz.ntmps41
  go_upto_region 1 with (fail)
  generalize w.alloc (.cells #[.int .i64 a.k, .int .i64 a.id, .int .i64 a.n, .bool a.on, .bool a.sm] 52) = w1 at *
  have a0 : w1.cell? ⟨w.heap.size, 0, none⟩ = some (.int .i64 1) := by rw [← hk.out]; exact hq.cellv 0 rfl
  have a1 : w1.cell? ⟨w.heap.size, 1, none⟩ = some (.int .i64 a.id) := hq.cellv 1 rfl
  have lta := hq.lt
  go_upto_region 5 with (fail)
  have hS1 : Chg w1 w1.drew (fun k => X k ∨ D k) := Chg.of_below (Below.refl _ _).drew
  try refine wp_region_noPanic ?_
  have hs4r : (fun w' => Chg w1 w' (fun k => X k ∨ D k)) w1.drew := Chg.of_below (Below.refl _ _).drew
  refine wp_region_held_drew (S := fun w' => Chg w1 w' (fun k => X k ∨ D k)) (by kernel_rfl) hs4r (fun _ => ?_)
  (refine held_takeA 0 (by rfl) ?_ (by kernel_rfl) (fun _ _ _ h => h) hs4r ?_ ?_; rotate_left; (focus (intro wq hSw; have hrd := hSw; have r1 : wq.cell? ⟨w.heap.size, 1, none⟩ = some (.int .i64 a.id) := (Chg.cell hSw (p := ⟨w.heap.size, 1, none⟩) lta hbX).trans a1; go_simp; try with_reducible rfl; done)); try simp only [Act.put, zA, zB, zC])
  (refine held_takeA 1 (by rfl) ?_ (by kernel_rfl) (fun _ _ _ h => h) hs4r ?_ ?_; rotate_left; (focus (intro wq hSw; have hrd := hSw; have r1 : wq.cell? ⟨w.heap.size, 1, none⟩ = some (.int .i64 a.id) := (Chg.cell hSw (p := ⟨w.heap.size, 1, none⟩) lta hbX).trans a1; go_simp; try with_reducible rfl; done)); try simp only [Act.put, zA, zB, zC])
  (refine held_takeA 2 (by rfl) ?_ (by kernel_rfl) (fun _ _ _ h => h) hs4r ?_ ?_; rotate_left; (focus (intro wq hSw; have hrd := hSw; have r1 : wq.cell? ⟨w.heap.size, 1, none⟩ = some (.int .i64 a.id) := (Chg.cell hSw (p := ⟨w.heap.size, 1, none⟩) lta hbX).trans a1; go_simp; try with_reducible rfl; done)); try simp only [Act.put, zA, zB, zC])
  (refine held_takeA 4 (by rfl) ?_ (by kernel_rfl) (fun _ _ _ h => h) hs4r ?_ ?_; rotate_left; (focus (intro wq hSw; have hrd := hSw; have r1 : wq.cell? ⟨w.heap.size, 1, none⟩ = some (.int .i64 a.id) := (Chg.cell hSw (p := ⟨w.heap.size, 1, none⟩) lta hbX).trans a1; go_simp; try with_reducible rfl; done)); try simp only [Act.put, zA, zB, zC])
  (refine held_takeA 5 (by rfl) ?_ (by kernel_rfl) (fun _ _ _ h => h) hs4r ?_ ?_; rotate_left; (focus (intro wq hSw; have hrd := hSw; have r1 : wq.cell? ⟨w.heap.size, 1, none⟩ = some (.int .i64 a.id) := (Chg.cell hSw (p := ⟨w.heap.size, 1, none⟩) lta hbX).trans a1; go_simp; try with_reducible rfl; done)); try simp only [Act.put, zA, zB, zC])
  (refine held_takeA 6 (by rfl) ?_ (by kernel_rfl) (fun _ _ _ h => h) hs4r ?_ ?_; rotate_left; (focus (intro wq hSw; have hrd := hSw; have r1 : wq.cell? ⟨w.heap.size, 1, none⟩ = some (.int .i64 a.id) := (Chg.cell hSw (p := ⟨w.heap.size, 1, none⟩) lta hbX).trans a1; go_simp; try with_reducible rfl; done)); try simp only [Act.put, zA, zB, zC])
  refine held_callA 3 (by rfl) (by kernel_rfl) (by rfl) (fun KQ hKQ => ?_)
  go_simp
  have hR : VipR w1.drew g d p0 pb f0 m XF kb s := hR.nx (Below.refl _ _).drew
  refine (vpLost hR hG a.id i0 i1).mono ?_
  rintro en w2 ⟨rfl, hR2, hC2⟩
  have hZ2 : Chg w1 w2 (fun k => X k ∨ D k) := hS1.trans hC2 (fun k _ q => .inl (hXf k q))
  have hCX : Chg w1.drew w2 X := hC2.mono fun k _ q => (fun (k : Nat) (_ : True) q => (hXf k q)) k trivial q
  have hs5r := hZ2
  refine hKQ.out _ _ hs5r ?_
  clear hKQ KQ
  try simp only [Act.put, zA, zB, zC]
  have hm : RvR w2 Y D gr p f A c r := (hM1.nx (Below.refl _ _).drew).keep hCX hX
  refine held_callA 7 (by rfl) (by kernel_rfl) (by rfl) (fun KQ hKQ => ?_)
  go_simp
  refine (rvResult hm hH a.id false hE).mono ?_
  rintro en w3 ⟨rfl, hm3, hC3⟩
  skip
  skip
  have hZ3 := hZ2.trans hC3 (fun k _ q => .inr q)
  have hZ9 : Chg w1 w3 (fun k => X k ∨ D k) := hZ3
  have hk3 : ∀ k, D k → ¬ Foot g d p0 pb m XF kb (idsM s.M) k := fun k e q => (hX k (hXf k q)).2 e
  have hs6r := hZ3
  refine hKQ.out _ _ hs6r ?_
  clear hKQ KQ
  try simp only [Act.put, zA, zB, zC]
  (refine held_takeA 8 (by rfl) ?_ (by kernel_rfl) (fun _ _ _ h => h) hs6r ?_ ?_; rotate_left; (focus (intro wq hSw; have hrd := hSw; have r1 : wq.cell? ⟨w.heap.size, 1, none⟩ = some (.int .i64 a.id) := (Chg.cell hSw (p := ⟨w.heap.size, 1, none⟩) lta hbX).trans a1; go_simp; try with_reducible rfl; done)); try simp only [Act.put, zA, zB, zC])
  (refine held_takeA 9 (by rfl) ?_ (by kernel_rfl) (fun _ _ _ h => h) hs6r ?_ ?_; rotate_left; (focus (intro wq hSw; have hrd := hSw; have r1 : wq.cell? ⟨w.heap.size, 1, none⟩ = some (.int .i64 a.id) := (Chg.cell hSw (p := ⟨w.heap.size, 1, none⟩) lta hbX).trans a1; go_simp; try with_reducible rfl; done)); try simp only [Act.put, zA, zB, zC])
  refine wpAnyH_done (by kernel_rfl) ?_ _
  try refine NoPanic.normal ?_
  have hR3 := hR2.keep hC3 (fun k q y => hk3 k y (by rw [hids] at q; exact q))
  have hV3 := VipT.of (w0 := w) (X := X) hR3 hids hXf (fun _ q => q) hlX (by have := hZ9.size; have := hb.size; omega)
  have hB9 : Chg w w3 (fun k => X k ∨ D k) := (Chg.of_below (X := fun k => X k ∨ D k) hb).trans hZ9 fun _ _ q => q
  clear hR hR2 hR3 hM1 hm hC2 hC3 hZ2 hZ3 hZ9 hCX hS1
  go_wp2_with fail
  go_ret
  exact ⟨rfl, hV3, hm3, hB9⟩
set_option maxRecDepth 100000 in
set_option maxHeartbeats 16000000 in
theorem act33_2 (w : World) (X Y D : Nat → Prop) (g gr : Nat) (s : VpS) (r : RvS) (a : ActW) (hT : VipT w X g s) (hM : RvT w Y D gr r) (hG : GoodV s) (hH : GoodR r) (hX : ∀ k, X k → Y k ∧ ¬ D k) (hE : r.E.length ≤ 1000000) (i0 : -9223372036854775808 ≤ a.id) (i1 : a.id ≤ 9223372036854775807) (hk : a.k = 2) : Calls Tryz.prog 41 #[.pointer (some ⟨g, 0, none⟩), .pointer (some ⟨gr, 0, none⟩), .agg #[.int .i64 a.k, .int .i64 a.id, .int .i64 a.n, .bool a.on, .bool a.sm]] w fun e w' => e = .returned (.bool (actQ s r a)) ∧ VipT w' X g (actS s a) ∧ RvT w' Y D gr (actRv r a) ∧ Chg w w' (fun k => X k ∨ D k) := by
  have eQ : actQ s r a = (wantS (tickD s) a.sm == wantR (tickR r) a.sm) := by unfold actQ; simp [hk]
  have eS : actS s a = tickS s a.sm := by unfold actS; simp [hk]
  have eR : actRv r a = tickRR r a.sm := by unfold actRv; simp [hk]
  have hids := actS_ids s a
  rw [eS] at hids
  rw [eQ, eS, eR]
  clear eQ eS eR
  have hb := (Below.refl w.heap.size w).alloc (Nat.le_refl _) (.cells #[.int .i64 a.k, .int .i64 a.id, .int .i64 a.n, .bool a.on, .bool a.sm] 52)
  have hq := Blk.new w 52 #[.int .i64 a.k, .int .i64 a.id, .int .i64 a.n, .bool a.on, .bool a.sm]
  have hlX := hT.lt
  have hT1 := hT.nx hb
  obtain ⟨p, f, A, c, hM1⟩ := hM
  have hlY := hM1.lim
  have hDY := hM1.dY
  have hbX : ¬ (X w.heap.size ∨ D w.heap.size) := fun q => q.elim (fun q => by have := hlX _ q; omega) fun q => by have := hlY _ (hDY _ q); omega
  have hM1 := hM1.nx hb
  obtain ⟨d, p0, pb, f0, m, XF, kb, hR, hXf, hXl⟩ := hT1
  clear hT
  replace hk := Lib.hid hk
  go_enter Tryz.func41, Tryz.ntmps41
  go_upto_region 1 with (fail)
  generalize w.alloc (.cells #[.int .i64 a.k, .int .i64 a.id, .int .i64 a.n, .bool a.on, .bool a.sm] 52) = w1 at *
  have a0 : w1.cell? ⟨w.heap.size, 0, none⟩ = some (.int .i64 2) := by rw [← hk.out]; exact hq.cellv 0 rfl
  have a4 : w1.cell? ⟨w.heap.size, 4, none⟩ = some (.bool a.sm) := hq.cellv 4 rfl
  have lta := hq.lt
  go_upto_region 7 with (fail)
  have hS1 : Chg w1 w1.drew (fun k => X k ∨ D k) := Chg.of_below (Below.refl _ _).drew
  try refine wp_region_noPanic ?_
  have hs7r : (fun w' => Chg w1 w' (fun k => X k ∨ D k)) w1.drew := Chg.of_below (Below.refl _ _).drew
  refine wp_region_held_drew (S := fun w' => Chg w1 w' (fun k => X k ∨ D k)) (by kernel_rfl) hs7r (fun _ => ?_)
  (refine held_takeA 0 (by rfl) ?_ (by kernel_rfl) (fun _ _ _ h => h) hs7r ?_ ?_; rotate_left; (focus (intro wq hSw; have hrd := hSw; have r4 : wq.cell? ⟨w.heap.size, 4, none⟩ = some (.bool a.sm) := (Chg.cell hSw (p := ⟨w.heap.size, 4, none⟩) lta hbX).trans a4; go_simp; try with_reducible rfl; done)); try simp only [Act.put, zA, zB, zC])
  (refine held_takeA 1 (by rfl) ?_ (by kernel_rfl) (fun _ _ _ h => h) hs7r ?_ ?_; rotate_left; (focus (intro wq hSw; have hrd := hSw; have r4 : wq.cell? ⟨w.heap.size, 4, none⟩ = some (.bool a.sm) := (Chg.cell hSw (p := ⟨w.heap.size, 4, none⟩) lta hbX).trans a4; go_simp; try with_reducible rfl; done)); try simp only [Act.put, zA, zB, zC])
  (refine held_takeA 2 (by rfl) ?_ (by kernel_rfl) (fun _ _ _ h => h) hs7r ?_ ?_; rotate_left; (focus (intro wq hSw; have hrd := hSw; have r4 : wq.cell? ⟨w.heap.size, 4, none⟩ = some (.bool a.sm) := (Chg.cell hSw (p := ⟨w.heap.size, 4, none⟩) lta hbX).trans a4; go_simp; try with_reducible rfl; done)); try simp only [Act.put, zA, zB, zC])
  (refine held_takeA 4 (by rfl) ?_ (by kernel_rfl) (fun _ _ _ h => h) hs7r ?_ ?_; rotate_left; (focus (intro wq hSw; have hrd := hSw; have r4 : wq.cell? ⟨w.heap.size, 4, none⟩ = some (.bool a.sm) := (Chg.cell hSw (p := ⟨w.heap.size, 4, none⟩) lta hbX).trans a4; go_simp; try with_reducible rfl; done)); try simp only [Act.put, zA, zB, zC])
  (refine held_takeA 5 (by rfl) ?_ (by kernel_rfl) (fun _ _ _ h => h) hs7r ?_ ?_; rotate_left; (focus (intro wq hSw; have hrd := hSw; have r4 : wq.cell? ⟨w.heap.size, 4, none⟩ = some (.bool a.sm) := (Chg.cell hSw (p := ⟨w.heap.size, 4, none⟩) lta hbX).trans a4; go_simp; try with_reducible rfl; done)); try simp only [Act.put, zA, zB, zC])
  (refine held_takeA 6 (by rfl) ?_ (by kernel_rfl) (fun _ _ _ h => h) hs7r ?_ ?_; rotate_left; (focus (intro wq hSw; have hrd := hSw; have r4 : wq.cell? ⟨w.heap.size, 4, none⟩ = some (.bool a.sm) := (Chg.cell hSw (p := ⟨w.heap.size, 4, none⟩) lta hbX).trans a4; go_simp; try with_reducible rfl; done)); try simp only [Act.put, zA, zB, zC])
  refine held_callA 3 (by rfl) (by kernel_rfl) (by rfl) (fun KQ hKQ => ?_)
  go_simp
  have hR : VipR w1.drew g d p0 pb f0 m XF kb s := hR.nx (Below.refl _ _).drew
  refine (vpTick hR hG a.sm).mono ?_
  rintro en w2 ⟨rfl, hR2, hC2⟩
  have hZ2 : Chg w1 w2 (fun k => X k ∨ D k) := hS1.trans hC2 (fun k _ q => .inl (hXf k (foot_gd q)))
  have hCX : Chg w1.drew w2 X := hC2.mono fun k _ q => (fun (k : Nat) (_ : True) q => (hXf k (foot_gd q))) k trivial q
  have hs8r := hZ2
  refine hKQ.out _ _ hs8r ?_
  clear hKQ KQ
  try simp only [Act.put, zA, zB, zC]
  have hm : RvR w2 Y D gr p f A c r := (hM1.nx (Below.refl _ _).drew).keep hCX hX
  refine held_callA 7 (by rfl) (by kernel_rfl) (by rfl) (fun KQ hKQ => ?_)
  go_simp
  refine (rvTickV hm hH a.sm).mono ?_
  rintro en w3 ⟨rfl, hm3, hC3⟩
  replace hm3 : RvT w3 Y D gr _ := ⟨p, f, A, c, hm3⟩
  replace hC3 : Chg w2 w3 D := hC3.mono fun k _ e => e ▸ hm.own.1
  have hZ3 := hZ2.trans hC3 (fun k _ q => .inr q)
  have hZ9 : Chg w1 w3 (fun k => X k ∨ D k) := hZ3
  have hk3 : ∀ k, D k → ¬ Foot g d p0 pb m XF kb (idsM s.M) k := fun k e q => (hX k (hXf k q)).2 e
  have hs9r := hZ3
  refine hKQ.out _ _ hs9r ?_
  clear hKQ KQ
  try simp only [Act.put, zA, zB, zC]
  (refine held_takeA 8 (by rfl) ?_ (by kernel_rfl) (fun _ _ _ h => h) hs9r ?_ ?_; rotate_left; (focus (intro wq hSw; have hrd := hSw; have r4 : wq.cell? ⟨w.heap.size, 4, none⟩ = some (.bool a.sm) := (Chg.cell hSw (p := ⟨w.heap.size, 4, none⟩) lta hbX).trans a4; go_simp; try with_reducible rfl; done)); try simp only [Act.put, zA, zB, zC])
  (refine held_takeA 9 (by rfl) ?_ (by kernel_rfl) (fun _ _ _ h => h) hs9r ?_ ?_; rotate_left; (focus (intro wq hSw; have hrd := hSw; have r4 : wq.cell? ⟨w.heap.size, 4, none⟩ = some (.bool a.sm) := (Chg.cell hSw (p := ⟨w.heap.size, 4, none⟩) lta hbX).trans a4; go_simp; try with_reducible rfl; done)); try simp only [Act.put, zA, zB, zC])
  refine wpAnyH_done (by kernel_rfl) ?_ _
  try refine NoPanic.normal ?_
  have hR3 := hR2.keep hC3 (fun k q y => hk3 k y (by rw [hids] at q; exact q))
  have hV3 := VipT.of (w0 := w) (X := X) hR3 hids hXf (fun _ q => q) hlX (by have := hZ9.size; have := hb.size; omega)
  have hB9 : Chg w w3 (fun k => X k ∨ D k) := (Chg.of_below (X := fun k => X k ∨ D k) hb).trans hZ9 fun _ _ q => q
  clear hR hR2 hR3 hM1 hm hC2 hC3 hZ2 hZ3 hZ9 hCX hS1
  go_wp2_with fail
  go_ret
  exact ⟨rfl, hV3, hm3, hB9⟩
set_option maxRecDepth 100000 in
set_option maxHeartbeats 16000000 in
theorem act33_3 (w : World) (X Y D : Nat → Prop) (g gr : Nat) (s : VpS) (r : RvS) (a : ActW) (hT : VipT w X g s) (hM : RvT w Y D gr r) (hG : GoodV s) (hH : GoodR r) (hX : ∀ k, X k → Y k ∧ ¬ D k) (hE : r.E.length ≤ 1000000) (i0 : -9223372036854775808 ≤ a.id) (i1 : a.id ≤ 9223372036854775807) (hk : a.k = 3) : Calls Tryz.prog 41 #[.pointer (some ⟨g, 0, none⟩), .pointer (some ⟨gr, 0, none⟩), .agg #[.int .i64 a.k, .int .i64 a.id, .int .i64 a.n, .bool a.on, .bool a.sm]] w fun e w' => e = .returned (.bool (actQ s r a)) ∧ VipT w' X g (actS s a) ∧ RvT w' Y D gr (actRv r a) ∧ Chg w w' (fun k => X k ∨ D k) := by
  have eQ : actQ s r a = (wantS s a.sm == wantR r a.sm) := by unfold actQ; simp [hk]
  have eS : actS s a = lookS s a.sm := by unfold actS; simp [hk]
  have eR : actRv r a = lookR r a.sm := by unfold actRv; simp [hk]
  have hids := actS_ids s a
  rw [eS] at hids
  rw [eQ, eS, eR]
  clear eQ eS eR
  have hb := (Below.refl w.heap.size w).alloc (Nat.le_refl _) (.cells #[.int .i64 a.k, .int .i64 a.id, .int .i64 a.n, .bool a.on, .bool a.sm] 52)
  have hq := Blk.new w 52 #[.int .i64 a.k, .int .i64 a.id, .int .i64 a.n, .bool a.on, .bool a.sm]
  have hlX := hT.lt
  have hT1 := hT.nx hb
  obtain ⟨p, f, A, c, hM1⟩ := hM
  have hlY := hM1.lim
  have hDY := hM1.dY
  have hbX : ¬ (X w.heap.size ∨ D w.heap.size) := fun q => q.elim (fun q => by have := hlX _ q; omega) fun q => by have := hlY _ (hDY _ q); omega
  have hM1 := hM1.nx hb
  obtain ⟨d, p0, pb, f0, m, XF, kb, hR, hXf, hXl⟩ := hT1
  clear hT
  replace hk := Lib.hid hk
  go_enter Tryz.func41, Tryz.ntmps41
  go_upto_region 1 with (fail)
  generalize w.alloc (.cells #[.int .i64 a.k, .int .i64 a.id, .int .i64 a.n, .bool a.on, .bool a.sm] 52) = w1 at *
  have a0 : w1.cell? ⟨w.heap.size, 0, none⟩ = some (.int .i64 3) := by rw [← hk.out]; exact hq.cellv 0 rfl
  have a4 : w1.cell? ⟨w.heap.size, 4, none⟩ = some (.bool a.sm) := hq.cellv 4 rfl
  have lta := hq.lt
  go_upto_region 9 with (fail)
  have hS1 : Chg w1 w1.drew (fun k => X k ∨ D k) := Chg.of_below (Below.refl _ _).drew
  try refine wp_region_noPanic ?_
  have hs10r : (fun w' => Chg w1 w' (fun k => X k ∨ D k)) w1.drew := Chg.of_below (Below.refl _ _).drew
  refine wp_region_held_drew (S := fun w' => Chg w1 w' (fun k => X k ∨ D k)) (by kernel_rfl) hs10r (fun _ => ?_)
  (refine held_takeA 0 (by rfl) ?_ (by kernel_rfl) (fun _ _ _ h => h) hs10r ?_ ?_; rotate_left; (focus (intro wq hSw; have hrd := hSw; have r4 : wq.cell? ⟨w.heap.size, 4, none⟩ = some (.bool a.sm) := (Chg.cell hSw (p := ⟨w.heap.size, 4, none⟩) lta hbX).trans a4; go_simp; try with_reducible rfl; done)); try simp only [Act.put, zA, zB, zC])
  (refine held_takeA 1 (by rfl) ?_ (by kernel_rfl) (fun _ _ _ h => h) hs10r ?_ ?_; rotate_left; (focus (intro wq hSw; have hrd := hSw; have r4 : wq.cell? ⟨w.heap.size, 4, none⟩ = some (.bool a.sm) := (Chg.cell hSw (p := ⟨w.heap.size, 4, none⟩) lta hbX).trans a4; go_simp; try with_reducible rfl; done)); try simp only [Act.put, zA, zB, zC])
  (refine held_takeA 2 (by rfl) ?_ (by kernel_rfl) (fun _ _ _ h => h) hs10r ?_ ?_; rotate_left; (focus (intro wq hSw; have hrd := hSw; have r4 : wq.cell? ⟨w.heap.size, 4, none⟩ = some (.bool a.sm) := (Chg.cell hSw (p := ⟨w.heap.size, 4, none⟩) lta hbX).trans a4; go_simp; try with_reducible rfl; done)); try simp only [Act.put, zA, zB, zC])
  (refine held_takeA 4 (by rfl) ?_ (by kernel_rfl) (fun _ _ _ h => h) hs10r ?_ ?_; rotate_left; (focus (intro wq hSw; have hrd := hSw; have r4 : wq.cell? ⟨w.heap.size, 4, none⟩ = some (.bool a.sm) := (Chg.cell hSw (p := ⟨w.heap.size, 4, none⟩) lta hbX).trans a4; go_simp; try with_reducible rfl; done)); try simp only [Act.put, zA, zB, zC])
  (refine held_takeA 5 (by rfl) ?_ (by kernel_rfl) (fun _ _ _ h => h) hs10r ?_ ?_; rotate_left; (focus (intro wq hSw; have hrd := hSw; have r4 : wq.cell? ⟨w.heap.size, 4, none⟩ = some (.bool a.sm) := (Chg.cell hSw (p := ⟨w.heap.size, 4, none⟩) lta hbX).trans a4; go_simp; try with_reducible rfl; done)); try simp only [Act.put, zA, zB, zC])
  (refine held_takeA 6 (by rfl) ?_ (by kernel_rfl) (fun _ _ _ h => h) hs10r ?_ ?_; rotate_left; (focus (intro wq hSw; have hrd := hSw; have r4 : wq.cell? ⟨w.heap.size, 4, none⟩ = some (.bool a.sm) := (Chg.cell hSw (p := ⟨w.heap.size, 4, none⟩) lta hbX).trans a4; go_simp; try with_reducible rfl; done)); try simp only [Act.put, zA, zB, zC])
  refine held_callA 3 (by rfl) (by kernel_rfl) (by rfl) (fun KQ hKQ => ?_)
  go_simp
  have hR : VipR w1.drew g d p0 pb f0 m XF kb s := hR.nx (Below.refl _ _).drew
  refine (vpLook hR hG a.sm).mono ?_
  rintro en w2 ⟨rfl, hR2, hC2⟩
  have hZ2 : Chg w1 w2 (fun k => X k ∨ D k) := hS1.trans hC2 (fun k _ q => .inl (hXf k (foot_gd q)))
  have hCX : Chg w1.drew w2 X := hC2.mono fun k _ q => (fun (k : Nat) (_ : True) q => (hXf k (foot_gd q))) k trivial q
  have hs11r := hZ2
  refine hKQ.out _ _ hs11r ?_
  clear hKQ KQ
  try simp only [Act.put, zA, zB, zC]
  have hm : RvR w2 Y D gr p f A c r := (hM1.nx (Below.refl _ _).drew).keep hCX hX
  refine held_callA 7 (by rfl) (by kernel_rfl) (by rfl) (fun KQ hKQ => ?_)
  go_simp
  refine (rvLook hm hH a.sm).mono ?_
  rintro en w3 ⟨rfl, hm3, hC3⟩
  replace hm3 : RvT w3 Y D gr _ := ⟨p, f, A, c, hm3⟩
  replace hC3 : Chg w2 w3 D := hC3.mono fun k _ e => e ▸ hm.own.1
  have hZ3 := hZ2.trans hC3 (fun k _ q => .inr q)
  have hZ9 : Chg w1 w3 (fun k => X k ∨ D k) := hZ3
  have hk3 : ∀ k, D k → ¬ Foot g d p0 pb m XF kb (idsM s.M) k := fun k e q => (hX k (hXf k q)).2 e
  have hs12r := hZ3
  refine hKQ.out _ _ hs12r ?_
  clear hKQ KQ
  try simp only [Act.put, zA, zB, zC]
  (refine held_takeA 8 (by rfl) ?_ (by kernel_rfl) (fun _ _ _ h => h) hs12r ?_ ?_; rotate_left; (focus (intro wq hSw; have hrd := hSw; have r4 : wq.cell? ⟨w.heap.size, 4, none⟩ = some (.bool a.sm) := (Chg.cell hSw (p := ⟨w.heap.size, 4, none⟩) lta hbX).trans a4; go_simp; try with_reducible rfl; done)); try simp only [Act.put, zA, zB, zC])
  (refine held_takeA 9 (by rfl) ?_ (by kernel_rfl) (fun _ _ _ h => h) hs12r ?_ ?_; rotate_left; (focus (intro wq hSw; have hrd := hSw; have r4 : wq.cell? ⟨w.heap.size, 4, none⟩ = some (.bool a.sm) := (Chg.cell hSw (p := ⟨w.heap.size, 4, none⟩) lta hbX).trans a4; go_simp; try with_reducible rfl; done)); try simp only [Act.put, zA, zB, zC])
  refine wpAnyH_done (by kernel_rfl) ?_ _
  try refine NoPanic.normal ?_
  have hR3 := hR2.keep hC3 (fun k q y => hk3 k y (by rw [hids] at q; exact q))
  have hV3 := VipT.of (w0 := w) (X := X) hR3 hids hXf (fun _ q => q) hlX (by have := hZ9.size; have := hb.size; omega)
  have hB9 : Chg w w3 (fun k => X k ∨ D k) := (Chg.of_below (X := fun k => X k ∨ D k) hb).trans hZ9 fun _ _ q => q
  clear hR hR2 hR3 hM1 hm hC2 hC3 hZ2 hZ3 hZ9 hCX hS1
  go_wp2_with fail
  go_ret
  exact ⟨rfl, hV3, hm3, hB9⟩
set_option maxRecDepth 100000 in
set_option maxHeartbeats 16000000 in
theorem act33_4 (w : World) (X Y D : Nat → Prop) (g gr : Nat) (s : VpS) (r : RvS) (a : ActW) (hT : VipT w X g s) (hM : RvT w Y D gr r) (hG : GoodV s) (hH : GoodR r) (hX : ∀ k, X k → Y k ∧ ¬ D k) (hE : r.E.length ≤ 1000000) (i0 : -9223372036854775808 ≤ a.id) (i1 : a.id ≤ 9223372036854775807) (hk : a.k = 4) : Calls Tryz.prog 41 #[.pointer (some ⟨g, 0, none⟩), .pointer (some ⟨gr, 0, none⟩), .agg #[.int .i64 a.k, .int .i64 a.id, .int .i64 a.n, .bool a.on, .bool a.sm]] w fun e w' => e = .returned (.bool (actQ s r a)) ∧ VipT w' X g (actS s a) ∧ RvT w' Y D gr (actRv r a) ∧ Chg w w' (fun k => X k ∨ D k) := by
  have eQ : actQ s r a = ((drainR s.M a.id a.on).1 == (drainR r.L a.id a.on).1) := by unfold actQ; simp [hk]
  have eS : actS s a = { s with M := (drainR s.M a.id a.on).2 } := by unfold actS; simp [hk]
  have eR : actRv r a = { r with L := (drainR r.L a.id a.on).2 } := by unfold actRv; simp [hk]
  have hids := actS_ids s a
  rw [eS] at hids
  rw [eQ, eS, eR]
  clear eQ eS eR
  have hb := (Below.refl w.heap.size w).alloc (Nat.le_refl _) (.cells #[.int .i64 a.k, .int .i64 a.id, .int .i64 a.n, .bool a.on, .bool a.sm] 52)
  have hq := Blk.new w 52 #[.int .i64 a.k, .int .i64 a.id, .int .i64 a.n, .bool a.on, .bool a.sm]
  have hlX := hT.lt
  have hT1 := hT.nx hb
  obtain ⟨p, f, A, c, hM1⟩ := hM
  have hlY := hM1.lim
  have hDY := hM1.dY
  have hbX : ¬ (X w.heap.size ∨ D w.heap.size) := fun q => q.elim (fun q => by have := hlX _ q; omega) fun q => by have := hlY _ (hDY _ q); omega
  have hM1 := hM1.nx hb
  obtain ⟨d, p0, pb, f0, m, XF, kb, hR, hXf, hXl⟩ := hT1
  clear hT
  replace hk := Lib.hid hk
  go_enter Tryz.func41, Tryz.ntmps41
  go_upto_region 1 with (fail)
  generalize w.alloc (.cells #[.int .i64 a.k, .int .i64 a.id, .int .i64 a.n, .bool a.on, .bool a.sm] 52) = w1 at *
  have a0 : w1.cell? ⟨w.heap.size, 0, none⟩ = some (.int .i64 4) := by rw [← hk.out]; exact hq.cellv 0 rfl
  have a1 : w1.cell? ⟨w.heap.size, 1, none⟩ = some (.int .i64 a.id) := hq.cellv 1 rfl
  have a3 : w1.cell? ⟨w.heap.size, 3, none⟩ = some (.bool a.on) := hq.cellv 3 rfl
  have lta := hq.lt
  have lgr := hM1.blk.lt
  have m0 : w1.cell? ⟨gr, 0, none⟩ = some (.pointer (some ⟨p, 0, none⟩)) := hM1.blk.cellv 0 rfl
  have hgrp := hM1.ne.1
  have hgX : ¬ (X gr ∨ gr = p) := fun q => q.elim (fun q => (hX gr q).2 hM1.own.1) hgrp
  have hbP : ¬ (X w.heap.size ∨ w.heap.size = p) := fun q => q.elim (fun q => hbX (.inl q)) fun e => hbX (.inr (e ▸ hM1.own.2.1))
  have h16 : r.L.length ≤ 100000 := by have := hH.mem.1; omega
  go_upto_region 11 with (fail)
  have hS1 : Chg w1 w1.drew (fun k => X k ∨ k = p) := Chg.of_below (Below.refl _ _).drew
  try refine wp_region_noPanic ?_
  have hs13r : (fun w' => Chg w1 w' (fun k => X k ∨ k = p)) w1.drew := Chg.of_below (Below.refl _ _).drew
  refine wp_region_held_drew (S := fun w' => Chg w1 w' (fun k => X k ∨ k = p)) (by kernel_rfl) hs13r (fun _ => ?_)
  (refine held_takeA 0 (by rfl) ?_ (by kernel_rfl) (fun _ _ _ h => h) hs13r ?_ ?_; rotate_left; (focus (intro wq hSw; have hrd := hSw; have r1 : wq.cell? ⟨w.heap.size, 1, none⟩ = some (.int .i64 a.id) := (Chg.cell hSw (p := ⟨w.heap.size, 1, none⟩) lta hbP).trans a1; have r3 : wq.cell? ⟨w.heap.size, 3, none⟩ = some (.bool a.on) := (Chg.cell hSw (p := ⟨w.heap.size, 3, none⟩) lta hbP).trans a3; have rm : wq.cell? ⟨gr, 0, none⟩ = some (.pointer (some ⟨p, 0, none⟩)) := (Chg.cell hSw (p := ⟨gr, 0, none⟩) lgr hgX).trans m0; go_simp; try with_reducible rfl; done)); try simp only [Act.put, zA, zB, zC])
  (refine held_takeA 1 (by rfl) ?_ (by kernel_rfl) (fun _ _ _ h => h) hs13r ?_ ?_; rotate_left; (focus (intro wq hSw; have hrd := hSw; have r1 : wq.cell? ⟨w.heap.size, 1, none⟩ = some (.int .i64 a.id) := (Chg.cell hSw (p := ⟨w.heap.size, 1, none⟩) lta hbP).trans a1; have r3 : wq.cell? ⟨w.heap.size, 3, none⟩ = some (.bool a.on) := (Chg.cell hSw (p := ⟨w.heap.size, 3, none⟩) lta hbP).trans a3; have rm : wq.cell? ⟨gr, 0, none⟩ = some (.pointer (some ⟨p, 0, none⟩)) := (Chg.cell hSw (p := ⟨gr, 0, none⟩) lgr hgX).trans m0; go_simp; try with_reducible rfl; done)); try simp only [Act.put, zA, zB, zC])
  (refine held_takeA 2 (by rfl) ?_ (by kernel_rfl) (fun _ _ _ h => h) hs13r ?_ ?_; rotate_left; (focus (intro wq hSw; have hrd := hSw; have r1 : wq.cell? ⟨w.heap.size, 1, none⟩ = some (.int .i64 a.id) := (Chg.cell hSw (p := ⟨w.heap.size, 1, none⟩) lta hbP).trans a1; have r3 : wq.cell? ⟨w.heap.size, 3, none⟩ = some (.bool a.on) := (Chg.cell hSw (p := ⟨w.heap.size, 3, none⟩) lta hbP).trans a3; have rm : wq.cell? ⟨gr, 0, none⟩ = some (.pointer (some ⟨p, 0, none⟩)) := (Chg.cell hSw (p := ⟨gr, 0, none⟩) lgr hgX).trans m0; go_simp; try with_reducible rfl; done)); try simp only [Act.put, zA, zB, zC])
  (refine held_takeA 3 (by rfl) ?_ (by kernel_rfl) (fun _ _ _ h => h) hs13r ?_ ?_; rotate_left; (focus (intro wq hSw; have hrd := hSw; have r1 : wq.cell? ⟨w.heap.size, 1, none⟩ = some (.int .i64 a.id) := (Chg.cell hSw (p := ⟨w.heap.size, 1, none⟩) lta hbP).trans a1; have r3 : wq.cell? ⟨w.heap.size, 3, none⟩ = some (.bool a.on) := (Chg.cell hSw (p := ⟨w.heap.size, 3, none⟩) lta hbP).trans a3; have rm : wq.cell? ⟨gr, 0, none⟩ = some (.pointer (some ⟨p, 0, none⟩)) := (Chg.cell hSw (p := ⟨gr, 0, none⟩) lgr hgX).trans m0; go_simp; try with_reducible rfl; done)); try simp only [Act.put, zA, zB, zC])
  (refine held_takeA 4 (by rfl) ?_ (by kernel_rfl) (fun _ _ _ h => h) hs13r ?_ ?_; rotate_left; (focus (intro wq hSw; have hrd := hSw; have r1 : wq.cell? ⟨w.heap.size, 1, none⟩ = some (.int .i64 a.id) := (Chg.cell hSw (p := ⟨w.heap.size, 1, none⟩) lta hbP).trans a1; have r3 : wq.cell? ⟨w.heap.size, 3, none⟩ = some (.bool a.on) := (Chg.cell hSw (p := ⟨w.heap.size, 3, none⟩) lta hbP).trans a3; have rm : wq.cell? ⟨gr, 0, none⟩ = some (.pointer (some ⟨p, 0, none⟩)) := (Chg.cell hSw (p := ⟨gr, 0, none⟩) lgr hgX).trans m0; go_simp; try with_reducible rfl; done)); try simp only [Act.put, zA, zB, zC])
  (refine held_takeA 6 (by rfl) ?_ (by kernel_rfl) (fun _ _ _ h => h) hs13r ?_ ?_; rotate_left; (focus (intro wq hSw; have hrd := hSw; have r1 : wq.cell? ⟨w.heap.size, 1, none⟩ = some (.int .i64 a.id) := (Chg.cell hSw (p := ⟨w.heap.size, 1, none⟩) lta hbP).trans a1; have r3 : wq.cell? ⟨w.heap.size, 3, none⟩ = some (.bool a.on) := (Chg.cell hSw (p := ⟨w.heap.size, 3, none⟩) lta hbP).trans a3; have rm : wq.cell? ⟨gr, 0, none⟩ = some (.pointer (some ⟨p, 0, none⟩)) := (Chg.cell hSw (p := ⟨gr, 0, none⟩) lgr hgX).trans m0; go_simp; try with_reducible rfl; done)); try simp only [Act.put, zA, zB, zC])
  (refine held_takeA 7 (by rfl) ?_ (by kernel_rfl) (fun _ _ _ h => h) hs13r ?_ ?_; rotate_left; (focus (intro wq hSw; have hrd := hSw; have r1 : wq.cell? ⟨w.heap.size, 1, none⟩ = some (.int .i64 a.id) := (Chg.cell hSw (p := ⟨w.heap.size, 1, none⟩) lta hbP).trans a1; have r3 : wq.cell? ⟨w.heap.size, 3, none⟩ = some (.bool a.on) := (Chg.cell hSw (p := ⟨w.heap.size, 3, none⟩) lta hbP).trans a3; have rm : wq.cell? ⟨gr, 0, none⟩ = some (.pointer (some ⟨p, 0, none⟩)) := (Chg.cell hSw (p := ⟨gr, 0, none⟩) lgr hgX).trans m0; go_simp; try with_reducible rfl; done)); try simp only [Act.put, zA, zB, zC])
  (refine held_takeA 8 (by rfl) ?_ (by kernel_rfl) (fun _ _ _ h => h) hs13r ?_ ?_; rotate_left; (focus (intro wq hSw; have hrd := hSw; have r1 : wq.cell? ⟨w.heap.size, 1, none⟩ = some (.int .i64 a.id) := (Chg.cell hSw (p := ⟨w.heap.size, 1, none⟩) lta hbP).trans a1; have r3 : wq.cell? ⟨w.heap.size, 3, none⟩ = some (.bool a.on) := (Chg.cell hSw (p := ⟨w.heap.size, 3, none⟩) lta hbP).trans a3; have rm : wq.cell? ⟨gr, 0, none⟩ = some (.pointer (some ⟨p, 0, none⟩)) := (Chg.cell hSw (p := ⟨gr, 0, none⟩) lgr hgX).trans m0; go_simp; try with_reducible rfl; done)); try simp only [Act.put, zA, zB, zC])
  (refine held_takeA 9 (by rfl) ?_ (by kernel_rfl) (fun _ _ _ h => h) hs13r ?_ ?_; rotate_left; (focus (intro wq hSw; have hrd := hSw; have r1 : wq.cell? ⟨w.heap.size, 1, none⟩ = some (.int .i64 a.id) := (Chg.cell hSw (p := ⟨w.heap.size, 1, none⟩) lta hbP).trans a1; have r3 : wq.cell? ⟨w.heap.size, 3, none⟩ = some (.bool a.on) := (Chg.cell hSw (p := ⟨w.heap.size, 3, none⟩) lta hbP).trans a3; have rm : wq.cell? ⟨gr, 0, none⟩ = some (.pointer (some ⟨p, 0, none⟩)) := (Chg.cell hSw (p := ⟨gr, 0, none⟩) lgr hgX).trans m0; go_simp; try with_reducible rfl; done)); try simp only [Act.put, zA, zB, zC])
  (refine held_takeA 10 (by rfl) ?_ (by kernel_rfl) (fun _ _ _ h => h) hs13r ?_ ?_; rotate_left; (focus (intro wq hSw; have hrd := hSw; have r1 : wq.cell? ⟨w.heap.size, 1, none⟩ = some (.int .i64 a.id) := (Chg.cell hSw (p := ⟨w.heap.size, 1, none⟩) lta hbP).trans a1; have r3 : wq.cell? ⟨w.heap.size, 3, none⟩ = some (.bool a.on) := (Chg.cell hSw (p := ⟨w.heap.size, 3, none⟩) lta hbP).trans a3; have rm : wq.cell? ⟨gr, 0, none⟩ = some (.pointer (some ⟨p, 0, none⟩)) := (Chg.cell hSw (p := ⟨gr, 0, none⟩) lgr hgX).trans m0; go_simp; try with_reducible rfl; done)); try simp only [Act.put, zA, zB, zC])
  (refine held_takeA 11 (by rfl) ?_ (by kernel_rfl) (fun _ _ _ h => h) hs13r ?_ ?_; rotate_left; (focus (intro wq hSw; have hrd := hSw; have r1 : wq.cell? ⟨w.heap.size, 1, none⟩ = some (.int .i64 a.id) := (Chg.cell hSw (p := ⟨w.heap.size, 1, none⟩) lta hbP).trans a1; have r3 : wq.cell? ⟨w.heap.size, 3, none⟩ = some (.bool a.on) := (Chg.cell hSw (p := ⟨w.heap.size, 3, none⟩) lta hbP).trans a3; have rm : wq.cell? ⟨gr, 0, none⟩ = some (.pointer (some ⟨p, 0, none⟩)) := (Chg.cell hSw (p := ⟨gr, 0, none⟩) lgr hgX).trans m0; go_simp; try with_reducible rfl; done)); try simp only [Act.put, zA, zB, zC])
  (refine held_takeA 12 (by rfl) ?_ (by kernel_rfl) (fun _ _ _ h => h) hs13r ?_ ?_; rotate_left; (focus (intro wq hSw; have hrd := hSw; have r1 : wq.cell? ⟨w.heap.size, 1, none⟩ = some (.int .i64 a.id) := (Chg.cell hSw (p := ⟨w.heap.size, 1, none⟩) lta hbP).trans a1; have r3 : wq.cell? ⟨w.heap.size, 3, none⟩ = some (.bool a.on) := (Chg.cell hSw (p := ⟨w.heap.size, 3, none⟩) lta hbP).trans a3; have rm : wq.cell? ⟨gr, 0, none⟩ = some (.pointer (some ⟨p, 0, none⟩)) := (Chg.cell hSw (p := ⟨gr, 0, none⟩) lgr hgX).trans m0; go_simp; try with_reducible rfl; done)); try simp only [Act.put, zA, zB, zC])
  (refine held_takeA 13 (by rfl) ?_ (by kernel_rfl) (fun _ _ _ h => h) hs13r ?_ ?_; rotate_left; (focus (intro wq hSw; have hrd := hSw; have r1 : wq.cell? ⟨w.heap.size, 1, none⟩ = some (.int .i64 a.id) := (Chg.cell hSw (p := ⟨w.heap.size, 1, none⟩) lta hbP).trans a1; have r3 : wq.cell? ⟨w.heap.size, 3, none⟩ = some (.bool a.on) := (Chg.cell hSw (p := ⟨w.heap.size, 3, none⟩) lta hbP).trans a3; have rm : wq.cell? ⟨gr, 0, none⟩ = some (.pointer (some ⟨p, 0, none⟩)) := (Chg.cell hSw (p := ⟨gr, 0, none⟩) lgr hgX).trans m0; go_simp; try with_reducible rfl; done)); try simp only [Act.put, zA, zB, zC])
  refine held_callA 5 (by rfl) (by kernel_rfl) (by rfl) (fun KQ hKQ => ?_)
  go_simp
  have hR : VipR w1.drew g d p0 pb f0 m XF kb s := hR.nx (Below.refl _ _).drew
  refine (vpDrain hR hG a.id a.on i0 i1).mono ?_
  rintro en w2 ⟨rfl, hR2, hC2⟩
  have hZ2 : Chg w1 w2 (fun k => X k ∨ k = p) := hS1.trans hC2 (fun k _ q => .inl (hXf k (.inr (.inr (.inr (.inl q))))))
  have hCX : Chg w1.drew w2 X := hC2.mono fun k _ q => (fun (k : Nat) (_ : True) q => (hXf k (.inr (.inr (.inr (.inl q)))))) k trivial q
  have hs14r := hZ2
  refine hKQ.out _ _ hs14r ?_
  clear hKQ KQ
  try simp only [Act.put, zA, zB, zC]
  have hm : RvR w2 Y D gr p f A c r := (hM1.nx (Below.refl _ _).drew).keep hCX hX
  refine held_callA 14 (by rfl) (by kernel_rfl) (by rfl) (fun KQ hKQ => ?_)
  go_simp
  have hnew : ∀ b, w2.heap.size ≤ b → ¬ Y b := fun b q y => by have := hm.lim b y; omega
  refine (refDrain25 w2 _ p r.pc r.L a.id a.on hm.pol h16 hnew).mono ?_
  rintro en w3 ⟨rfl, hP3, hg3⟩
  have hC3 : Chg w2 w3 (fun k => k = p) := Chg.of_grown (X := fun k => k = p) hg3 rfl
  have hm3 : RvT w3 Y D gr _ := ⟨p, f, A, c, hm.setP hC3 _ hP3⟩
  have hZ3 := hZ2.trans hC3 (fun k _ q => .inr q)
  have hZ9 : Chg w1 w3 (fun k => X k ∨ D k) := hZ3.mono fun k _ q => q.elim .inl fun e => .inr (e ▸ hm.own.2.1)
  have hk3 : ∀ k, k = p → ¬ Foot g d p0 pb m XF kb (idsM s.M) k := fun k e q => (hX k (hXf k q)).2 (e ▸ hm.own.2.1)
  have hs15r := hZ3
  refine hKQ.out _ _ hs15r ?_
  clear hKQ KQ
  try simp only [Act.put, zA, zB, zC]
  (refine held_takeA 15 (by rfl) ?_ (by kernel_rfl) (fun _ _ _ h => h) hs15r ?_ ?_; rotate_left; (focus (intro wq hSw; have hrd := hSw; have r1 : wq.cell? ⟨w.heap.size, 1, none⟩ = some (.int .i64 a.id) := (Chg.cell hSw (p := ⟨w.heap.size, 1, none⟩) lta hbP).trans a1; have r3 : wq.cell? ⟨w.heap.size, 3, none⟩ = some (.bool a.on) := (Chg.cell hSw (p := ⟨w.heap.size, 3, none⟩) lta hbP).trans a3; have rm : wq.cell? ⟨gr, 0, none⟩ = some (.pointer (some ⟨p, 0, none⟩)) := (Chg.cell hSw (p := ⟨gr, 0, none⟩) lgr hgX).trans m0; go_simp; try with_reducible rfl; done)); try simp only [Act.put, zA, zB, zC])
  (refine held_takeA 16 (by rfl) ?_ (by kernel_rfl) (fun _ _ _ h => h) hs15r ?_ ?_; rotate_left; (focus (intro wq hSw; have hrd := hSw; have r1 : wq.cell? ⟨w.heap.size, 1, none⟩ = some (.int .i64 a.id) := (Chg.cell hSw (p := ⟨w.heap.size, 1, none⟩) lta hbP).trans a1; have r3 : wq.cell? ⟨w.heap.size, 3, none⟩ = some (.bool a.on) := (Chg.cell hSw (p := ⟨w.heap.size, 3, none⟩) lta hbP).trans a3; have rm : wq.cell? ⟨gr, 0, none⟩ = some (.pointer (some ⟨p, 0, none⟩)) := (Chg.cell hSw (p := ⟨gr, 0, none⟩) lgr hgX).trans m0; go_simp; try with_reducible rfl; done)); try simp only [Act.put, zA, zB, zC])
  refine wpAnyH_done (by kernel_rfl) ?_ _
  try refine NoPanic.normal ?_
  have hR3 := hR2.keep hC3 (fun k q y => hk3 k y (by rw [hids] at q; exact q))
  have hV3 := VipT.of (w0 := w) (X := X) hR3 hids hXf (fun _ q => q) hlX (by have := hZ9.size; have := hb.size; omega)
  have hB9 : Chg w w3 (fun k => X k ∨ D k) := (Chg.of_below (X := fun k => X k ∨ D k) hb).trans hZ9 fun _ _ q => q
  clear hR hR2 hR3 hM1 hm hC2 hC3 hZ2 hZ3 hZ9 hCX hS1
  go_wp2_with fail
  go_ret
  exact ⟨rfl, hV3, hm3, hB9⟩
set_option maxRecDepth 100000 in
set_option maxHeartbeats 16000000 in
theorem act33_5 (w : World) (X Y D : Nat → Prop) (g gr : Nat) (s : VpS) (r : RvS) (a : ActW) (hT : VipT w X g s) (hM : RvT w Y D gr r) (hG : GoodV s) (hH : GoodR r) (hX : ∀ k, X k → Y k ∧ ¬ D k) (hE : r.E.length ≤ 1000000) (i0 : -9223372036854775808 ≤ a.id) (i1 : a.id ≤ 9223372036854775807) (hk : a.k = 5) : Calls Tryz.prog 41 #[.pointer (some ⟨g, 0, none⟩), .pointer (some ⟨gr, 0, none⟩), .agg #[.int .i64 a.k, .int .i64 a.id, .int .i64 a.n, .bool a.on, .bool a.sm]] w fun e w' => e = .returned (.bool (actQ s r a)) ∧ VipT w' X g (actS s a) ∧ RvT w' Y D gr (actRv r a) ∧ Chg w w' (fun k => X k ∨ D k) := by
  have eQ : actQ s r a = ((weighR s.M a.id a.n).1 == (weighR r.L a.id a.n).1) := by unfold actQ; simp [hk]
  have eS : actS s a = { s with M := (weighR s.M a.id a.n).2 } := by unfold actS; simp [hk]
  have eR : actRv r a = { r with L := (weighR r.L a.id a.n).2 } := by unfold actRv; simp [hk]
  have hids := actS_ids s a
  rw [eS] at hids
  rw [eQ, eS, eR]
  clear eQ eS eR
  have hb := (Below.refl w.heap.size w).alloc (Nat.le_refl _) (.cells #[.int .i64 a.k, .int .i64 a.id, .int .i64 a.n, .bool a.on, .bool a.sm] 52)
  have hq := Blk.new w 52 #[.int .i64 a.k, .int .i64 a.id, .int .i64 a.n, .bool a.on, .bool a.sm]
  have hlX := hT.lt
  have hT1 := hT.nx hb
  obtain ⟨p, f, A, c, hM1⟩ := hM
  have hlY := hM1.lim
  have hDY := hM1.dY
  have hbX : ¬ (X w.heap.size ∨ D w.heap.size) := fun q => q.elim (fun q => by have := hlX _ q; omega) fun q => by have := hlY _ (hDY _ q); omega
  have hM1 := hM1.nx hb
  obtain ⟨d, p0, pb, f0, m, XF, kb, hR, hXf, hXl⟩ := hT1
  clear hT
  replace hk := Lib.hid hk
  go_enter Tryz.func41, Tryz.ntmps41
  go_upto_region 1 with (fail)
  generalize w.alloc (.cells #[.int .i64 a.k, .int .i64 a.id, .int .i64 a.n, .bool a.on, .bool a.sm] 52) = w1 at *
  have a0 : w1.cell? ⟨w.heap.size, 0, none⟩ = some (.int .i64 5) := by rw [← hk.out]; exact hq.cellv 0 rfl
  have a1 : w1.cell? ⟨w.heap.size, 1, none⟩ = some (.int .i64 a.id) := hq.cellv 1 rfl
  have a2 : w1.cell? ⟨w.heap.size, 2, none⟩ = some (.int .i64 a.n) := hq.cellv 2 rfl
  have lta := hq.lt
  have lgr := hM1.blk.lt
  have m0 : w1.cell? ⟨gr, 0, none⟩ = some (.pointer (some ⟨p, 0, none⟩)) := hM1.blk.cellv 0 rfl
  have hgrp := hM1.ne.1
  have hgX : ¬ (X gr ∨ gr = p) := fun q => q.elim (fun q => (hX gr q).2 hM1.own.1) hgrp
  have hbP : ¬ (X w.heap.size ∨ w.heap.size = p) := fun q => q.elim (fun q => hbX (.inl q)) fun e => hbX (.inr (e ▸ hM1.own.2.1))
  have h16 : r.L.length ≤ 100000 := by have := hH.mem.1; omega
  go_upto_region 13 with (fail)
  have hS1 : Chg w1 w1.drew (fun k => X k ∨ k = p) := Chg.of_below (Below.refl _ _).drew
  try refine wp_region_noPanic ?_
  have hs16r : (fun w' => Chg w1 w' (fun k => X k ∨ k = p)) w1.drew := Chg.of_below (Below.refl _ _).drew
  refine wp_region_held_drew (S := fun w' => Chg w1 w' (fun k => X k ∨ k = p)) (by kernel_rfl) hs16r (fun _ => ?_)
  (refine held_takeA 0 (by rfl) ?_ (by kernel_rfl) (fun _ _ _ h => h) hs16r ?_ ?_; rotate_left; (focus (intro wq hSw; have hrd := hSw; have r1 : wq.cell? ⟨w.heap.size, 1, none⟩ = some (.int .i64 a.id) := (Chg.cell hSw (p := ⟨w.heap.size, 1, none⟩) lta hbP).trans a1; have r2 : wq.cell? ⟨w.heap.size, 2, none⟩ = some (.int .i64 a.n) := (Chg.cell hSw (p := ⟨w.heap.size, 2, none⟩) lta hbP).trans a2; have rm : wq.cell? ⟨gr, 0, none⟩ = some (.pointer (some ⟨p, 0, none⟩)) := (Chg.cell hSw (p := ⟨gr, 0, none⟩) lgr hgX).trans m0; go_simp; try with_reducible rfl; done)); try simp only [Act.put, zA, zB, zC])
  (refine held_takeA 1 (by rfl) ?_ (by kernel_rfl) (fun _ _ _ h => h) hs16r ?_ ?_; rotate_left; (focus (intro wq hSw; have hrd := hSw; have r1 : wq.cell? ⟨w.heap.size, 1, none⟩ = some (.int .i64 a.id) := (Chg.cell hSw (p := ⟨w.heap.size, 1, none⟩) lta hbP).trans a1; have r2 : wq.cell? ⟨w.heap.size, 2, none⟩ = some (.int .i64 a.n) := (Chg.cell hSw (p := ⟨w.heap.size, 2, none⟩) lta hbP).trans a2; have rm : wq.cell? ⟨gr, 0, none⟩ = some (.pointer (some ⟨p, 0, none⟩)) := (Chg.cell hSw (p := ⟨gr, 0, none⟩) lgr hgX).trans m0; go_simp; try with_reducible rfl; done)); try simp only [Act.put, zA, zB, zC])
  (refine held_takeA 2 (by rfl) ?_ (by kernel_rfl) (fun _ _ _ h => h) hs16r ?_ ?_; rotate_left; (focus (intro wq hSw; have hrd := hSw; have r1 : wq.cell? ⟨w.heap.size, 1, none⟩ = some (.int .i64 a.id) := (Chg.cell hSw (p := ⟨w.heap.size, 1, none⟩) lta hbP).trans a1; have r2 : wq.cell? ⟨w.heap.size, 2, none⟩ = some (.int .i64 a.n) := (Chg.cell hSw (p := ⟨w.heap.size, 2, none⟩) lta hbP).trans a2; have rm : wq.cell? ⟨gr, 0, none⟩ = some (.pointer (some ⟨p, 0, none⟩)) := (Chg.cell hSw (p := ⟨gr, 0, none⟩) lgr hgX).trans m0; go_simp; try with_reducible rfl; done)); try simp only [Act.put, zA, zB, zC])
  (refine held_takeA 3 (by rfl) ?_ (by kernel_rfl) (fun _ _ _ h => h) hs16r ?_ ?_; rotate_left; (focus (intro wq hSw; have hrd := hSw; have r1 : wq.cell? ⟨w.heap.size, 1, none⟩ = some (.int .i64 a.id) := (Chg.cell hSw (p := ⟨w.heap.size, 1, none⟩) lta hbP).trans a1; have r2 : wq.cell? ⟨w.heap.size, 2, none⟩ = some (.int .i64 a.n) := (Chg.cell hSw (p := ⟨w.heap.size, 2, none⟩) lta hbP).trans a2; have rm : wq.cell? ⟨gr, 0, none⟩ = some (.pointer (some ⟨p, 0, none⟩)) := (Chg.cell hSw (p := ⟨gr, 0, none⟩) lgr hgX).trans m0; go_simp; try with_reducible rfl; done)); try simp only [Act.put, zA, zB, zC])
  (refine held_takeA 4 (by rfl) ?_ (by kernel_rfl) (fun _ _ _ h => h) hs16r ?_ ?_; rotate_left; (focus (intro wq hSw; have hrd := hSw; have r1 : wq.cell? ⟨w.heap.size, 1, none⟩ = some (.int .i64 a.id) := (Chg.cell hSw (p := ⟨w.heap.size, 1, none⟩) lta hbP).trans a1; have r2 : wq.cell? ⟨w.heap.size, 2, none⟩ = some (.int .i64 a.n) := (Chg.cell hSw (p := ⟨w.heap.size, 2, none⟩) lta hbP).trans a2; have rm : wq.cell? ⟨gr, 0, none⟩ = some (.pointer (some ⟨p, 0, none⟩)) := (Chg.cell hSw (p := ⟨gr, 0, none⟩) lgr hgX).trans m0; go_simp; try with_reducible rfl; done)); try simp only [Act.put, zA, zB, zC])
  (refine held_takeA 6 (by rfl) ?_ (by kernel_rfl) (fun _ _ _ h => h) hs16r ?_ ?_; rotate_left; (focus (intro wq hSw; have hrd := hSw; have r1 : wq.cell? ⟨w.heap.size, 1, none⟩ = some (.int .i64 a.id) := (Chg.cell hSw (p := ⟨w.heap.size, 1, none⟩) lta hbP).trans a1; have r2 : wq.cell? ⟨w.heap.size, 2, none⟩ = some (.int .i64 a.n) := (Chg.cell hSw (p := ⟨w.heap.size, 2, none⟩) lta hbP).trans a2; have rm : wq.cell? ⟨gr, 0, none⟩ = some (.pointer (some ⟨p, 0, none⟩)) := (Chg.cell hSw (p := ⟨gr, 0, none⟩) lgr hgX).trans m0; go_simp; try with_reducible rfl; done)); try simp only [Act.put, zA, zB, zC])
  (refine held_takeA 7 (by rfl) ?_ (by kernel_rfl) (fun _ _ _ h => h) hs16r ?_ ?_; rotate_left; (focus (intro wq hSw; have hrd := hSw; have r1 : wq.cell? ⟨w.heap.size, 1, none⟩ = some (.int .i64 a.id) := (Chg.cell hSw (p := ⟨w.heap.size, 1, none⟩) lta hbP).trans a1; have r2 : wq.cell? ⟨w.heap.size, 2, none⟩ = some (.int .i64 a.n) := (Chg.cell hSw (p := ⟨w.heap.size, 2, none⟩) lta hbP).trans a2; have rm : wq.cell? ⟨gr, 0, none⟩ = some (.pointer (some ⟨p, 0, none⟩)) := (Chg.cell hSw (p := ⟨gr, 0, none⟩) lgr hgX).trans m0; go_simp; try with_reducible rfl; done)); try simp only [Act.put, zA, zB, zC])
  (refine held_takeA 8 (by rfl) ?_ (by kernel_rfl) (fun _ _ _ h => h) hs16r ?_ ?_; rotate_left; (focus (intro wq hSw; have hrd := hSw; have r1 : wq.cell? ⟨w.heap.size, 1, none⟩ = some (.int .i64 a.id) := (Chg.cell hSw (p := ⟨w.heap.size, 1, none⟩) lta hbP).trans a1; have r2 : wq.cell? ⟨w.heap.size, 2, none⟩ = some (.int .i64 a.n) := (Chg.cell hSw (p := ⟨w.heap.size, 2, none⟩) lta hbP).trans a2; have rm : wq.cell? ⟨gr, 0, none⟩ = some (.pointer (some ⟨p, 0, none⟩)) := (Chg.cell hSw (p := ⟨gr, 0, none⟩) lgr hgX).trans m0; go_simp; try with_reducible rfl; done)); try simp only [Act.put, zA, zB, zC])
  (refine held_takeA 9 (by rfl) ?_ (by kernel_rfl) (fun _ _ _ h => h) hs16r ?_ ?_; rotate_left; (focus (intro wq hSw; have hrd := hSw; have r1 : wq.cell? ⟨w.heap.size, 1, none⟩ = some (.int .i64 a.id) := (Chg.cell hSw (p := ⟨w.heap.size, 1, none⟩) lta hbP).trans a1; have r2 : wq.cell? ⟨w.heap.size, 2, none⟩ = some (.int .i64 a.n) := (Chg.cell hSw (p := ⟨w.heap.size, 2, none⟩) lta hbP).trans a2; have rm : wq.cell? ⟨gr, 0, none⟩ = some (.pointer (some ⟨p, 0, none⟩)) := (Chg.cell hSw (p := ⟨gr, 0, none⟩) lgr hgX).trans m0; go_simp; try with_reducible rfl; done)); try simp only [Act.put, zA, zB, zC])
  (refine held_takeA 10 (by rfl) ?_ (by kernel_rfl) (fun _ _ _ h => h) hs16r ?_ ?_; rotate_left; (focus (intro wq hSw; have hrd := hSw; have r1 : wq.cell? ⟨w.heap.size, 1, none⟩ = some (.int .i64 a.id) := (Chg.cell hSw (p := ⟨w.heap.size, 1, none⟩) lta hbP).trans a1; have r2 : wq.cell? ⟨w.heap.size, 2, none⟩ = some (.int .i64 a.n) := (Chg.cell hSw (p := ⟨w.heap.size, 2, none⟩) lta hbP).trans a2; have rm : wq.cell? ⟨gr, 0, none⟩ = some (.pointer (some ⟨p, 0, none⟩)) := (Chg.cell hSw (p := ⟨gr, 0, none⟩) lgr hgX).trans m0; go_simp; try with_reducible rfl; done)); try simp only [Act.put, zA, zB, zC])
  (refine held_takeA 11 (by rfl) ?_ (by kernel_rfl) (fun _ _ _ h => h) hs16r ?_ ?_; rotate_left; (focus (intro wq hSw; have hrd := hSw; have r1 : wq.cell? ⟨w.heap.size, 1, none⟩ = some (.int .i64 a.id) := (Chg.cell hSw (p := ⟨w.heap.size, 1, none⟩) lta hbP).trans a1; have r2 : wq.cell? ⟨w.heap.size, 2, none⟩ = some (.int .i64 a.n) := (Chg.cell hSw (p := ⟨w.heap.size, 2, none⟩) lta hbP).trans a2; have rm : wq.cell? ⟨gr, 0, none⟩ = some (.pointer (some ⟨p, 0, none⟩)) := (Chg.cell hSw (p := ⟨gr, 0, none⟩) lgr hgX).trans m0; go_simp; try with_reducible rfl; done)); try simp only [Act.put, zA, zB, zC])
  (refine held_takeA 12 (by rfl) ?_ (by kernel_rfl) (fun _ _ _ h => h) hs16r ?_ ?_; rotate_left; (focus (intro wq hSw; have hrd := hSw; have r1 : wq.cell? ⟨w.heap.size, 1, none⟩ = some (.int .i64 a.id) := (Chg.cell hSw (p := ⟨w.heap.size, 1, none⟩) lta hbP).trans a1; have r2 : wq.cell? ⟨w.heap.size, 2, none⟩ = some (.int .i64 a.n) := (Chg.cell hSw (p := ⟨w.heap.size, 2, none⟩) lta hbP).trans a2; have rm : wq.cell? ⟨gr, 0, none⟩ = some (.pointer (some ⟨p, 0, none⟩)) := (Chg.cell hSw (p := ⟨gr, 0, none⟩) lgr hgX).trans m0; go_simp; try with_reducible rfl; done)); try simp only [Act.put, zA, zB, zC])
  (refine held_takeA 13 (by rfl) ?_ (by kernel_rfl) (fun _ _ _ h => h) hs16r ?_ ?_; rotate_left; (focus (intro wq hSw; have hrd := hSw; have r1 : wq.cell? ⟨w.heap.size, 1, none⟩ = some (.int .i64 a.id) := (Chg.cell hSw (p := ⟨w.heap.size, 1, none⟩) lta hbP).trans a1; have r2 : wq.cell? ⟨w.heap.size, 2, none⟩ = some (.int .i64 a.n) := (Chg.cell hSw (p := ⟨w.heap.size, 2, none⟩) lta hbP).trans a2; have rm : wq.cell? ⟨gr, 0, none⟩ = some (.pointer (some ⟨p, 0, none⟩)) := (Chg.cell hSw (p := ⟨gr, 0, none⟩) lgr hgX).trans m0; go_simp; try with_reducible rfl; done)); try simp only [Act.put, zA, zB, zC])
  refine held_callA 5 (by rfl) (by kernel_rfl) (by rfl) (fun KQ hKQ => ?_)
  go_simp
  have hR : VipR w1.drew g d p0 pb f0 m XF kb s := hR.nx (Below.refl _ _).drew
  refine (vpWeigh hR hG a.id a.n i0 i1).mono ?_
  rintro en w2 ⟨rfl, hR2, hC2⟩
  have hZ2 : Chg w1 w2 (fun k => X k ∨ k = p) := hS1.trans hC2 (fun k _ q => .inl (hXf k (.inr (.inr (.inr (.inl q))))))
  have hCX : Chg w1.drew w2 X := hC2.mono fun k _ q => (fun (k : Nat) (_ : True) q => (hXf k (.inr (.inr (.inr (.inl q)))))) k trivial q
  have hs17r := hZ2
  refine hKQ.out _ _ hs17r ?_
  clear hKQ KQ
  try simp only [Act.put, zA, zB, zC]
  have hm : RvR w2 Y D gr p f A c r := (hM1.nx (Below.refl _ _).drew).keep hCX hX
  refine held_callA 14 (by rfl) (by kernel_rfl) (by rfl) (fun KQ hKQ => ?_)
  go_simp
  have hnew : ∀ b, w2.heap.size ≤ b → ¬ Y b := fun b q y => by have := hm.lim b y; omega
  refine (refWeigh25 w2 _ p r.pc r.L a.id a.n hm.pol h16 hnew).mono ?_
  rintro en w3 ⟨rfl, hP3, hg3⟩
  have hC3 : Chg w2 w3 (fun k => k = p) := Chg.of_grown (X := fun k => k = p) hg3 rfl
  have hm3 : RvT w3 Y D gr _ := ⟨p, f, A, c, hm.setP hC3 _ hP3⟩
  have hZ3 := hZ2.trans hC3 (fun k _ q => .inr q)
  have hZ9 : Chg w1 w3 (fun k => X k ∨ D k) := hZ3.mono fun k _ q => q.elim .inl fun e => .inr (e ▸ hm.own.2.1)
  have hk3 : ∀ k, k = p → ¬ Foot g d p0 pb m XF kb (idsM s.M) k := fun k e q => (hX k (hXf k q)).2 (e ▸ hm.own.2.1)
  have hs18r := hZ3
  refine hKQ.out _ _ hs18r ?_
  clear hKQ KQ
  try simp only [Act.put, zA, zB, zC]
  (refine held_takeA 15 (by rfl) ?_ (by kernel_rfl) (fun _ _ _ h => h) hs18r ?_ ?_; rotate_left; (focus (intro wq hSw; have hrd := hSw; have r1 : wq.cell? ⟨w.heap.size, 1, none⟩ = some (.int .i64 a.id) := (Chg.cell hSw (p := ⟨w.heap.size, 1, none⟩) lta hbP).trans a1; have r2 : wq.cell? ⟨w.heap.size, 2, none⟩ = some (.int .i64 a.n) := (Chg.cell hSw (p := ⟨w.heap.size, 2, none⟩) lta hbP).trans a2; have rm : wq.cell? ⟨gr, 0, none⟩ = some (.pointer (some ⟨p, 0, none⟩)) := (Chg.cell hSw (p := ⟨gr, 0, none⟩) lgr hgX).trans m0; go_simp; try with_reducible rfl; done)); try simp only [Act.put, zA, zB, zC])
  (refine held_takeA 16 (by rfl) ?_ (by kernel_rfl) (fun _ _ _ h => h) hs18r ?_ ?_; rotate_left; (focus (intro wq hSw; have hrd := hSw; have r1 : wq.cell? ⟨w.heap.size, 1, none⟩ = some (.int .i64 a.id) := (Chg.cell hSw (p := ⟨w.heap.size, 1, none⟩) lta hbP).trans a1; have r2 : wq.cell? ⟨w.heap.size, 2, none⟩ = some (.int .i64 a.n) := (Chg.cell hSw (p := ⟨w.heap.size, 2, none⟩) lta hbP).trans a2; have rm : wq.cell? ⟨gr, 0, none⟩ = some (.pointer (some ⟨p, 0, none⟩)) := (Chg.cell hSw (p := ⟨gr, 0, none⟩) lgr hgX).trans m0; go_simp; try with_reducible rfl; done)); try simp only [Act.put, zA, zB, zC])
  refine wpAnyH_done (by kernel_rfl) ?_ _
  try refine NoPanic.normal ?_
  have hR3 := hR2.keep hC3 (fun k q y => hk3 k y (by rw [hids] at q; exact q))
  have hV3 := VipT.of (w0 := w) (X := X) hR3 hids hXf (fun _ q => q) hlX (by have := hZ9.size; have := hb.size; omega)
  have hB9 : Chg w w3 (fun k => X k ∨ D k) := (Chg.of_below (X := fun k => X k ∨ D k) hb).trans hZ9 fun _ _ q => q
  clear hR hR2 hR3 hM1 hm hC2 hC3 hZ2 hZ3 hZ9 hCX hS1
  go_wp2_with fail
  go_ret
  exact ⟨rfl, hV3, hm3, hB9⟩
set_option maxRecDepth 100000 in
set_option maxHeartbeats 16000000 in
theorem act33_6 (w : World) (X Y D : Nat → Prop) (g gr : Nat) (s : VpS) (r : RvS) (a : ActW) (hT : VipT w X g s) (hM : RvT w Y D gr r) (hG : GoodV s) (hH : GoodR r) (hX : ∀ k, X k → Y k ∧ ¬ D k) (hE : r.E.length ≤ 1000000) (i0 : -9223372036854775808 ≤ a.id) (i1 : a.id ≤ 9223372036854775807) (hk : a.k = 6) : Calls Tryz.prog 41 #[.pointer (some ⟨g, 0, none⟩), .pointer (some ⟨gr, 0, none⟩), .agg #[.int .i64 a.k, .int .i64 a.id, .int .i64 a.n, .bool a.on, .bool a.sm]] w fun e w' => e = .returned (.bool (actQ s r a)) ∧ VipT w' X g (actS s a) ∧ RvT w' Y D gr (actRv r a) ∧ Chg w w' (fun k => X k ∨ D k) := by
  have eQ : actQ s r a = ((s.on != a.on) == (r.on != a.on)) := by unfold actQ; simp [hk]
  have eS : actS s a = { s with on := a.on } := by unfold actS; simp [hk]
  have eR : actRv r a = { r with on := a.on } := by unfold actRv; simp [hk]
  have hids := actS_ids s a
  rw [eS] at hids
  rw [eQ, eS, eR]
  clear eQ eS eR
  have hb := (Below.refl w.heap.size w).alloc (Nat.le_refl _) (.cells #[.int .i64 a.k, .int .i64 a.id, .int .i64 a.n, .bool a.on, .bool a.sm] 52)
  have hq := Blk.new w 52 #[.int .i64 a.k, .int .i64 a.id, .int .i64 a.n, .bool a.on, .bool a.sm]
  have hlX := hT.lt
  have hT1 := hT.nx hb
  obtain ⟨p, f, A, c, hM1⟩ := hM
  have hlY := hM1.lim
  have hDY := hM1.dY
  have hbX : ¬ (X w.heap.size ∨ D w.heap.size) := fun q => q.elim (fun q => by have := hlX _ q; omega) fun q => by have := hlY _ (hDY _ q); omega
  have hM1 := hM1.nx hb
  obtain ⟨d, p0, pb, f0, m, XF, kb, hR, hXf, hXl⟩ := hT1
  clear hT
  replace hk := Lib.hid hk
  go_enter Tryz.func41, Tryz.ntmps41
  go_upto_region 1 with (fail)
  generalize w.alloc (.cells #[.int .i64 a.k, .int .i64 a.id, .int .i64 a.n, .bool a.on, .bool a.sm] 52) = w1 at *
  have a0 : w1.cell? ⟨w.heap.size, 0, none⟩ = some (.int .i64 6) := by rw [← hk.out]; exact hq.cellv 0 rfl
  have a3 : w1.cell? ⟨w.heap.size, 3, none⟩ = some (.bool a.on) := hq.cellv 3 rfl
  have lta := hq.lt
  go_upto_region 15 with (fail)
  have hS1 : Chg w1 w1.drew (fun k => X k ∨ D k) := Chg.of_below (Below.refl _ _).drew
  try refine wp_region_noPanic ?_
  have hs19r : (fun w' => Chg w1 w' (fun k => X k ∨ D k)) w1.drew := Chg.of_below (Below.refl _ _).drew
  refine wp_region_held_drew (S := fun w' => Chg w1 w' (fun k => X k ∨ D k)) (by kernel_rfl) hs19r (fun _ => ?_)
  (refine held_takeA 0 (by rfl) ?_ (by kernel_rfl) (fun _ _ _ h => h) hs19r ?_ ?_; rotate_left; (focus (intro wq hSw; have hrd := hSw; have r3 : wq.cell? ⟨w.heap.size, 3, none⟩ = some (.bool a.on) := (Chg.cell hSw (p := ⟨w.heap.size, 3, none⟩) lta hbX).trans a3; go_simp; try with_reducible rfl; done)); try simp only [Act.put, zA, zB, zC])
  (refine held_takeA 1 (by rfl) ?_ (by kernel_rfl) (fun _ _ _ h => h) hs19r ?_ ?_; rotate_left; (focus (intro wq hSw; have hrd := hSw; have r3 : wq.cell? ⟨w.heap.size, 3, none⟩ = some (.bool a.on) := (Chg.cell hSw (p := ⟨w.heap.size, 3, none⟩) lta hbX).trans a3; go_simp; try with_reducible rfl; done)); try simp only [Act.put, zA, zB, zC])
  (refine held_takeA 2 (by rfl) ?_ (by kernel_rfl) (fun _ _ _ h => h) hs19r ?_ ?_; rotate_left; (focus (intro wq hSw; have hrd := hSw; have r3 : wq.cell? ⟨w.heap.size, 3, none⟩ = some (.bool a.on) := (Chg.cell hSw (p := ⟨w.heap.size, 3, none⟩) lta hbX).trans a3; go_simp; try with_reducible rfl; done)); try simp only [Act.put, zA, zB, zC])
  (refine held_takeA 4 (by rfl) ?_ (by kernel_rfl) (fun _ _ _ h => h) hs19r ?_ ?_; rotate_left; (focus (intro wq hSw; have hrd := hSw; have r3 : wq.cell? ⟨w.heap.size, 3, none⟩ = some (.bool a.on) := (Chg.cell hSw (p := ⟨w.heap.size, 3, none⟩) lta hbX).trans a3; go_simp; try with_reducible rfl; done)); try simp only [Act.put, zA, zB, zC])
  (refine held_takeA 5 (by rfl) ?_ (by kernel_rfl) (fun _ _ _ h => h) hs19r ?_ ?_; rotate_left; (focus (intro wq hSw; have hrd := hSw; have r3 : wq.cell? ⟨w.heap.size, 3, none⟩ = some (.bool a.on) := (Chg.cell hSw (p := ⟨w.heap.size, 3, none⟩) lta hbX).trans a3; go_simp; try with_reducible rfl; done)); try simp only [Act.put, zA, zB, zC])
  (refine held_takeA 6 (by rfl) ?_ (by kernel_rfl) (fun _ _ _ h => h) hs19r ?_ ?_; rotate_left; (focus (intro wq hSw; have hrd := hSw; have r3 : wq.cell? ⟨w.heap.size, 3, none⟩ = some (.bool a.on) := (Chg.cell hSw (p := ⟨w.heap.size, 3, none⟩) lta hbX).trans a3; go_simp; try with_reducible rfl; done)); try simp only [Act.put, zA, zB, zC])
  refine held_callA 3 (by rfl) (by kernel_rfl) (by rfl) (fun KQ hKQ => ?_)
  go_simp
  have hR : VipR w1.drew g d p0 pb f0 m XF kb s := hR.nx (Below.refl _ _).drew
  refine (vpEnable hR a.on).mono ?_
  rintro en w2 ⟨rfl, hR2, hC2⟩
  have hZ2 : Chg w1 w2 (fun k => X k ∨ D k) := hS1.trans hC2 (fun k _ q => .inl (hXf k (.inl q)))
  have hCX : Chg w1.drew w2 X := hC2.mono fun k _ q => (fun (k : Nat) (_ : True) q => (hXf k (.inl q))) k trivial q
  have hs20r := hZ2
  refine hKQ.out _ _ hs20r ?_
  clear hKQ KQ
  try simp only [Act.put, zA, zB, zC]
  have hm : RvR w2 Y D gr p f A c r := (hM1.nx (Below.refl _ _).drew).keep hCX hX
  refine held_callA 7 (by rfl) (by kernel_rfl) (by rfl) (fun KQ hKQ => ?_)
  go_simp
  refine (rvEnable hm a.on).mono ?_
  rintro en w3 ⟨rfl, hm3, hC3⟩
  replace hm3 : RvT w3 Y D gr _ := ⟨p, f, A, c, hm3⟩
  replace hC3 : Chg w2 w3 D := hC3.mono fun k _ e => e ▸ hm.own.1
  have hZ3 := hZ2.trans hC3 (fun k _ q => .inr q)
  have hZ9 : Chg w1 w3 (fun k => X k ∨ D k) := hZ3
  have hk3 : ∀ k, D k → ¬ Foot g d p0 pb m XF kb (idsM s.M) k := fun k e q => (hX k (hXf k q)).2 e
  have hs21r := hZ3
  refine hKQ.out _ _ hs21r ?_
  clear hKQ KQ
  try simp only [Act.put, zA, zB, zC]
  (refine held_takeA 8 (by rfl) ?_ (by kernel_rfl) (fun _ _ _ h => h) hs21r ?_ ?_; rotate_left; (focus (intro wq hSw; have hrd := hSw; have r3 : wq.cell? ⟨w.heap.size, 3, none⟩ = some (.bool a.on) := (Chg.cell hSw (p := ⟨w.heap.size, 3, none⟩) lta hbX).trans a3; go_simp; try with_reducible rfl; done)); try simp only [Act.put, zA, zB, zC])
  (refine held_takeA 9 (by rfl) ?_ (by kernel_rfl) (fun _ _ _ h => h) hs21r ?_ ?_; rotate_left; (focus (intro wq hSw; have hrd := hSw; have r3 : wq.cell? ⟨w.heap.size, 3, none⟩ = some (.bool a.on) := (Chg.cell hSw (p := ⟨w.heap.size, 3, none⟩) lta hbX).trans a3; go_simp; try with_reducible rfl; done)); try simp only [Act.put, zA, zB, zC])
  refine wpAnyH_done (by kernel_rfl) ?_ _
  try refine NoPanic.normal ?_
  have hR3 := hR2.keep hC3 (fun k q y => hk3 k y (by rw [hids] at q; exact q))
  have hV3 := VipT.of (w0 := w) (X := X) hR3 hids hXf (fun _ q => q) hlX (by have := hZ9.size; have := hb.size; omega)
  have hB9 : Chg w w3 (fun k => X k ∨ D k) := (Chg.of_below (X := fun k => X k ∨ D k) hb).trans hZ9 fun _ _ q => q
  clear hR hR2 hR3 hM1 hm hC2 hC3 hZ2 hZ3 hZ9 hCX hS1
  go_wp2_with fail
  go_ret
  exact ⟨rfl, hV3, hm3, hB9⟩
set_option maxRecDepth 100000 in
set_option maxHeartbeats 16000000 in
theorem act33_7 (w : World) (X Y D : Nat → Prop) (g gr : Nat) (s : VpS) (r : RvS) (a : ActW) (hT : VipT w X g s) (hM : RvT w Y D gr r) (hG : GoodV s) (hH : GoodR r) (hX : ∀ k, X k → Y k ∧ ¬ D k) (hE : r.E.length ≤ 1000000) (i0 : -9223372036854775808 ≤ a.id) (i1 : a.id ≤ 9223372036854775807) (hk : ¬ (0 ≤ a.k ∧ a.k ≤ 6)) : Calls Tryz.prog 41 #[.pointer (some ⟨g, 0, none⟩), .pointer (some ⟨gr, 0, none⟩), .agg #[.int .i64 a.k, .int .i64 a.id, .int .i64 a.n, .bool a.on, .bool a.sm]] w fun e w' => e = .returned (.bool (actQ s r a)) ∧ VipT w' X g (actS s a) ∧ RvT w' Y D gr (actRv r a) ∧ Chg w w' (fun k => X k ∨ D k) := by
  have n0 : a.k ≠ 0 := by omega
  have n1 : a.k ≠ 1 := by omega
  have n2 : a.k ≠ 2 := by omega
  have n3 : a.k ≠ 3 := by omega
  have n4 : a.k ≠ 4 := by omega
  have n5 : a.k ≠ 5 := by omega
  have n6 : a.k ≠ 6 := by omega
  have eQ : actQ s r a = true := by unfold actQ; simp [n0, n1, n2, n3, n4, n5, n6]
  have eS : actS s a = s := by unfold actS; simp [n0, n1, n2, n3, n4, n5, n6]
  have eR : actRv r a = r := by unfold actRv; simp [n0, n1, n2, n3, n4, n5, n6]
  rw [eQ, eS, eR]
  have hb := (Below.refl w.heap.size w).alloc (Nat.le_refl _) (.cells #[.int .i64 a.k, .int .i64 a.id, .int .i64 a.n, .bool a.on, .bool a.sm] 52)
  have hq := Blk.new w 52 #[.int .i64 a.k, .int .i64 a.id, .int .i64 a.n, .bool a.on, .bool a.sm]
  obtain ⟨p, f, A, c, hM1⟩ := hM
  have hT1 := hT.nx hb
  have hM2 : RvT _ Y D gr r := ⟨p, f, A, c, hM1.nx hb⟩
  have d0 : (a.k == 0) = false := by simpa using n0
  have d1 : (a.k == 1) = false := by simpa using n1
  have d2 : (a.k == 2) = false := by simpa using n2
  have d3 : (a.k == 3) = false := by simpa using n3
  have d4 : (a.k == 4) = false := by simpa using n4
  have d5 : (a.k == 5) = false := by simpa using n5
  have d6 : (a.k == 6) = false := by simpa using n6
  clear eQ eS eR n0 n1 n2 n3 n4 n5 n6 hk hT hM1
  go_enter Tryz.func41, Tryz.ntmps41
  go_upto_region 1 with (fail)
  generalize w.alloc (.cells #[.int .i64 a.k, .int .i64 a.id, .int .i64 a.n, .bool a.on, .bool a.sm] 52) = w1 at *
  have a0 : w1.cell? ⟨w.heap.size, 0, none⟩ = some (.int .i64 a.k) := hq.cellv 0 rfl
  have lta := hq.lt
  go_wp2_with fail
  go_ret
  exact ⟨rfl, hT1, hM2, Chg.of_below hb⟩
theorem act33_any (w : World) (X Y D : Nat → Prop) (g gr : Nat) (s : VpS) (r : RvS) (a : ActW) (hT : VipT w X g s) (hM : RvT w Y D gr r) (hG : GoodV s) (hH : GoodR r) (hX : ∀ k, X k → Y k ∧ ¬ D k) (hE : r.E.length ≤ 1000000) (i0 : -9223372036854775808 ≤ a.id) (i1 : a.id ≤ 9223372036854775807) : Calls Tryz.prog 41 #[.pointer (some ⟨g, 0, none⟩), .pointer (some ⟨gr, 0, none⟩), .agg #[.int .i64 a.k, .int .i64 a.id, .int .i64 a.n, .bool a.on, .bool a.sm]] w fun e w' => e = .returned (.bool (actQ s r a)) ∧ VipT w' X g (actS s a) ∧ RvT w' Y D gr (actRv r a) ∧ Chg w w' (fun k => X k ∨ D k) := by
  by_cases h0 : a.k = 0
  · exact act33_0 w X Y D g gr s r a hT hM hG hH hX hE i0 i1 h0
  by_cases h1 : a.k = 1
  · exact act33_1 w X Y D g gr s r a hT hM hG hH hX hE i0 i1 h1
  by_cases h2 : a.k = 2
  · exact act33_2 w X Y D g gr s r a hT hM hG hH hX hE i0 i1 h2
  by_cases h3 : a.k = 3
  · exact act33_3 w X Y D g gr s r a hT hM hG hH hX hE i0 i1 h3
  by_cases h4 : a.k = 4
  · exact act33_4 w X Y D g gr s r a hT hM hG hH hX hE i0 i1 h4
  by_cases h5 : a.k = 5
  · exact act33_5 w X Y D g gr s r a hT hM hG hH hX hE i0 i1 h5
  by_cases h6 : a.k = 6
  · exact act33_6 w X Y D g gr s r a hT hM hG hH hX hE i0 i1 h6
  · exact act33_7 w X Y D g gr s r a hT hM hG hH hX hE i0 i1 (by omega)
end Go.Proofs.YtgdeecmhhbdjgaaGreat
