/- ip: IpReads, the walk. -/
import Derived.Test.YtlkammmadchjnaaIpS
namespace Go.Proofs.Ytlkammmadchjnaa
set_option linter.unusedVariables false
open Go.RowKit

theorem Byt.nx {w w' : World} {A : Option Addr} {n : Nat} {l : List UInt8} (h : Byt w w.heap.size A n l) (hb : Below w.heap.size w w') : Byt w' w'.heap.size A n l := (h.below hb).more hb.size
theorem sameH_refl (t i f g l p s d : Int) (o : List UInt8) : sameH t i f g l p s d o t i f g l p s d o = true := by simp [sameH]
set_option maxRecDepth 100000 in
set_option maxHeartbeats 8000000 in
theorem reads_walk (A : Option Addr) (n c : Nat) (l : List UInt8) (dst : Int) (w : World) (hc : n ≤ c) (hc2 : c ≤ maxLen) (hI : Byt w w.heap.size A n l) (hd : (Lit.int .u32 dst).wf = true) :
    Calls Try.prog 5 #[.slice A n c, .int .u32 dst] w fun e w' => e = .returned (.bool true) ∧ Below w.heap.size w w' := by
  obtain ⟨d0, d1⟩ := bounds_u32 hd
  clear hd
  by_cases hbig : 12000 < n
  · have i1 : (12000 : Int) < n := by omega
    go_enter Try.func5, Try.ntmps5
    go_wp2_with fail
    refine (lives4_any _).mono ?_
    rintro e w9 ⟨rfl, hb⟩
    go_wp2_with fail
    go_ret
    exact ⟨rfl, hb⟩
  have i1 : (n : Int) ≤ 12000 := by omega
  replace hbig : n ≤ 12000 := by omega
  have i2 : n ≤ 10000000 := by omega
  have fs := fS_bd l
  have ol := optL_len l
  go_enter Try.func5, Try.ntmps5
  go_wp2_with fail
  refine (ipParse_any w A n c l hI hc hc2 i2).mono ?_
  rintro e w1 ⟨vo, vp, rfl, owno, ownp, hb⟩
  unfold parsed
  obtain ⟨Ap1, cp1, rfl, _, hp1, _⟩ := ownp.any
  obtain ⟨Ao1, co1, rfl, _, ho1, _⟩ := owno.any
  clear owno ownp
  replace hI := hI.nx hb
  have hB := hb
  clear hb
  have hb := (Below.refl w1.heap.size w1).alloc (Nat.le_refl _) (.cells #[.int .i64 (fT l), .int .i64 (fI l), .int .i64 (fF l), .int .i64 (fG l), .int .i64 (fL l), .int .i64 (fP l), .int .u32 (fS l), .int .u32 (fD l), .slice Ao1 (optL l).length co1] 25)
  have hq1 := Blk.new w1 25 #[.int .i64 (fT l), .int .i64 (fI l), .int .i64 (fF l), .int .i64 (fG l), .int .i64 (fL l), .int .i64 (fP l), .int .u32 (fS l), .int .u32 (fD l), .slice Ao1 (optL l).length co1]
  replace hI := hI.nx hb
  replace hp1 := hp1.nx hb
  replace ho1 := ho1.nx hb
  replace hB := hB.trans (hb.mono hB.size)
  clear hb
  go_wp2_with fail
  generalize w1.alloc (.cells #[.int .i64 (fT l), .int .i64 (fI l), .int .i64 (fF l), .int .i64 (fG l), .int .i64 (fL l), .int .i64 (fP l), .int .u32 (fS l), .int .u32 (fD l), .slice Ao1 (optL l).length co1] 25) = u1 at *
  generalize hg1 : w1.heap.size = G1 at *
  clear hg1
  refine (refParse_any u1 A n c l hI hc hc2 i2).mono ?_
  rintro e w2 ⟨vo, vp, rfl, owno, ownp, hb⟩
  unfold parsed
  obtain ⟨Ap2, cp2, rfl, _, hp2, _⟩ := ownp.any
  obtain ⟨Ao2, co2, rfl, _, ho2, _⟩ := owno.any
  clear owno ownp
  replace hI := hI.nx hb
  replace hp1 := hp1.nx hb
  replace ho1 := ho1.nx hb
  replace hq1 := hq1.below hb hq1.lt
  replace hB := hB.trans (hb.mono hB.size)
  clear hb
  have hb := (Below.refl w2.heap.size w2).alloc (Nat.le_refl _) (.cells #[.int .i64 (fT l), .int .i64 (fI l), .int .i64 (fF l), .int .i64 (fG l), .int .i64 (fL l), .int .i64 (fP l), .int .u32 (fS l), .int .u32 (fD l), .slice Ao2 (optL l).length co2] 29)
  have hq2 := Blk.new w2 29 #[.int .i64 (fT l), .int .i64 (fI l), .int .i64 (fF l), .int .i64 (fG l), .int .i64 (fL l), .int .i64 (fP l), .int .u32 (fS l), .int .u32 (fD l), .slice Ao2 (optL l).length co2]
  replace hI := hI.nx hb
  replace hp1 := hp1.nx hb
  replace ho1 := ho1.nx hb
  replace hp2 := hp2.nx hb
  replace ho2 := ho2.nx hb
  replace hq1 := hq1.below hb hq1.lt
  replace hB := hB.trans (hb.mono hB.size)
  clear hb
  go_wp2_with fail
  generalize w2.alloc (.cells #[.int .i64 (fT l), .int .i64 (fI l), .int .i64 (fF l), .int .i64 (fG l), .int .i64 (fL l), .int .i64 (fP l), .int .u32 (fS l), .int .u32 (fD l), .slice Ao2 (optL l).length co2] 29) = u2 at *
  generalize hg2 : w2.heap.size = G2 at *
  clear hg2
  refine (ipForward_any u2 A n c l hI hc hc2 i2).mono ?_
  rintro e w3 ⟨vx, rfl, ownx, hb⟩
  obtain ⟨Ax3, cx3, rfl, _, hx3, _⟩ := ownx.any
  clear ownx
  replace hI := hI.nx hb
  replace hp1 := hp1.nx hb
  replace ho1 := ho1.nx hb
  replace hp2 := hp2.nx hb
  replace ho2 := ho2.nx hb
  replace hq1 := hq1.below hb hq1.lt
  replace hq2 := hq2.below hb hq2.lt
  replace hB := hB.trans (hb.mono hB.size)
  clear hb
  go_wp2_with fail
  refine (refForward_any w3 A n c l hI hc hc2 i2).mono ?_
  rintro e w4 ⟨vx, rfl, ownx, hb⟩
  obtain ⟨Ax4, cx4, rfl, _, hx4, _⟩ := ownx.any
  clear ownx
  replace hI := hI.nx hb
  replace hp1 := hp1.nx hb
  replace ho1 := ho1.nx hb
  replace hp2 := hp2.nx hb
  replace ho2 := ho2.nx hb
  replace hx3 := hx3.nx hb
  replace hq1 := hq1.below hb hq1.lt
  replace hq2 := hq2.below hb hq2.lt
  replace hB := hB.trans (hb.mono hB.size)
  clear hb
  go_wp2_with fail
  refine (ipRewrite_any w4 A n c l hI hc hc2 i2 dst d0 d1).mono ?_
  rintro e w5 ⟨vx, rfl, ownx, hb⟩
  obtain ⟨Ax5, cx5, rfl, _, hx5, _⟩ := ownx.any
  clear ownx
  replace hI := hI.nx hb
  replace hp1 := hp1.nx hb
  replace ho1 := ho1.nx hb
  replace hp2 := hp2.nx hb
  replace ho2 := ho2.nx hb
  replace hx3 := hx3.nx hb
  replace hx4 := hx4.nx hb
  replace hq1 := hq1.below hb hq1.lt
  replace hq2 := hq2.below hb hq2.lt
  replace hB := hB.trans (hb.mono hB.size)
  clear hb
  go_wp2_with fail
  refine (refRewrite_any w5 A n c l hI hc hc2 i2 dst d0 d1).mono ?_
  rintro e w6 ⟨vx, rfl, ownx, hb⟩
  obtain ⟨Ax6, cx6, rfl, _, hx6, _⟩ := ownx.any
  clear ownx
  replace hI := hI.nx hb
  replace hp1 := hp1.nx hb
  replace ho1 := ho1.nx hb
  replace hp2 := hp2.nx hb
  replace ho2 := ho2.nx hb
  replace hx3 := hx3.nx hb
  replace hx4 := hx4.nx hb
  replace hx5 := hx5.nx hb
  replace hq1 := hq1.below hb hq1.lt
  replace hq2 := hq2.below hb hq2.lt
  replace hB := hB.trans (hb.mono hB.size)
  clear hb
  go_wp2_with fail
  -- region 9: 0 1C 2 3C 4 5 6 7 8 9 10 11 12 13 14 15 16 17 18 19 20 21 22 23 24 25 26 27 28 29 30 31 32 33 34 35 36 37 38 39 40 41C 42 43
  try refine wp_region_noPanic ?_
  have hs1r : Below w6.heap.size w6 w6.drew := (Below.refl _ _).drew
  refine wp_region_held_drew (S := fun w' => Below w6.heap.size w6 w') (by kernel_rfl) hs1r (fun _ => ?_)
  (refine held_takeA 0 (by rfl) ?_ (by kernel_rfl) (fun _ _ _ h => h) hs1r ?_ ?_; rotate_left; (focus (intro wq hSw; refine exec_load_blk (x := .tmp 5) ?_ ?_ (hq1.below hSw hq1.lt) _ Try.underlying25 rfl (by kernel_rfl) <;> rfl)); simp only [Act.put, List.setIfInBounds_toArray, List.set_cons_zero, List.set_cons_succ])
  (refine held_takeA 2 (by rfl) ?_ (by kernel_rfl) (fun _ _ _ h => h) hs1r ?_ ?_; rotate_left; (focus (intro wq hSw; refine exec_load_blk (x := .tmp 8) ?_ ?_ (hq2.below hSw hq2.lt) _ Try.underlying29 rfl (by kernel_rfl) <;> rfl)); simp only [Act.put, List.setIfInBounds_toArray, List.set_cons_zero, List.set_cons_succ])
  refine held_callA 1 (by rfl) (by kernel_rfl) (by rfl) (fun KQ hKQ => ?_)
  go_simp
  refine (plain_any (fT l) (fI l) (fF l) (fG l) (fL l) (fP l) (fS l) (fD l) Ao1 _ co1 _).mono ?_
  rintro e w7 ⟨rfl, hb7⟩
  replace hI := hI.nx ((Below.refl w6.heap.size w6).drew.trans hb7)
  replace hp1 := hp1.nx ((Below.refl w6.heap.size w6).drew.trans hb7)
  replace hp2 := hp2.nx ((Below.refl w6.heap.size w6).drew.trans hb7)
  replace ho1 := ho1.nx ((Below.refl w6.heap.size w6).drew.trans hb7)
  replace ho2 := ho2.nx ((Below.refl w6.heap.size w6).drew.trans hb7)
  replace hx3 := hx3.nx ((Below.refl w6.heap.size w6).drew.trans hb7)
  replace hx4 := hx4.nx ((Below.refl w6.heap.size w6).drew.trans hb7)
  replace hx5 := hx5.nx ((Below.refl w6.heap.size w6).drew.trans hb7)
  replace hx6 := hx6.nx ((Below.refl w6.heap.size w6).drew.trans hb7)
  refine hKQ.out _ _ (hs1r.trans hb7) (held_mono (S' := fun w' => Below w7.heap.size w7 w') (fun w' h => (hs1r.trans hb7).trans (h.mono (hs1r.trans hb7).size)) _ _ _ _ ?_)
  clear hKQ KQ
  replace hq1 := hq1.below (hs1r.trans hb7) hq1.lt
  replace hq2 := hq2.below (hs1r.trans hb7) hq2.lt
  replace hB := hB.trans ((hs1r.trans hb7).mono hB.size)
  have hs2r : Below w7.heap.size w7 w7 := Below.refl _ _
  try simp only [Act.put, List.setIfInBounds_toArray, List.set_cons_zero, List.set_cons_succ]
  --@c show
  refine held_callA 3 (by rfl) (by kernel_rfl) (by rfl) (fun KQ hKQ => ?_)
  go_simp
  refine (refSame_any (fT l) (fI l) (fF l) (fG l) (fL l) (fP l) (fS l) (fD l) Ao1 _ co1 (optL l) (fT l) (fI l) (fF l) (fG l) (fL l) (fP l) (fS l) (fD l) Ao2 _ co2 (optL l) _ _ w7 ho1 ho2 (Nat.le_refl _) (Nat.le_refl _)).mono ?_
  rintro e w8 ⟨rfl, hb8⟩
  rw [sameH_refl]
  replace hI := hI.nx (hb8)
  replace hp1 := hp1.nx (hb8)
  replace hp2 := hp2.nx (hb8)
  replace ho1 := ho1.nx (hb8)
  replace ho2 := ho2.nx (hb8)
  replace hx3 := hx3.nx (hb8)
  replace hx4 := hx4.nx (hb8)
  replace hx5 := hx5.nx (hb8)
  replace hx6 := hx6.nx (hb8)
  refine hKQ.out _ _ (hs2r.trans hb8) (held_mono (S' := fun w' => Below w8.heap.size w8 w') (fun w' h => (hs2r.trans hb8).trans (h.mono (hs2r.trans hb8).size)) _ _ _ _ ?_)
  clear hKQ KQ
  replace hq1 := hq1.below (hs2r.trans hb8) hq1.lt
  replace hq2 := hq2.below (hs2r.trans hb8) hq2.lt
  replace hB := hB.trans ((hs2r.trans hb8).mono hB.size)
  have hs3r : Below w8.heap.size w8 w8 := Below.refl _ _
  try simp only [Act.put, List.setIfInBounds_toArray, List.set_cons_zero, List.set_cons_succ]
  (refine held_takeA 4 (by rfl) ?_ (by kernel_rfl) (fun _ _ _ h => h) hs3r ?_ ?_; rotate_left; (focus (intro wq hSw; have hrd : ∀ b o, b < w8.heap.size → wq.cell? ⟨b, o, none⟩ = w8.cell? ⟨b, o, none⟩ := (fun b o h => hSw.cell (p := ⟨b, o, none⟩) h); go_simp; try with_reducible rfl; done)); try simp only [Act.put, List.setIfInBounds_toArray, List.set_cons_zero, List.set_cons_succ])
  (refine held_takeA 5 (by rfl) ?_ (by kernel_rfl) (fun _ _ _ h => h) hs3r ?_ ?_; rotate_left; (focus (intro wq hSw; have hrd : ∀ b o, b < w8.heap.size → wq.cell? ⟨b, o, none⟩ = w8.cell? ⟨b, o, none⟩ := (fun b o h => hSw.cell (p := ⟨b, o, none⟩) h); go_simp; try with_reducible rfl; done)); try simp only [Act.put, List.setIfInBounds_toArray, List.set_cons_zero, List.set_cons_succ])
  (refine held_takeA 6 (by rfl) ?_ (by kernel_rfl) (fun _ _ _ h => h) hs3r ?_ ?_; rotate_left; (focus (intro wq hSw; have q := run_str wq (hp1.below hSw) cp1; go_simp; try with_reducible rfl; done)); simp only [Act.put, List.setIfInBounds_toArray, List.set_cons_zero, List.set_cons_succ])
  (refine held_takeA 7 (by rfl) ?_ (by kernel_rfl) (fun _ _ _ h => h) hs3r ?_ ?_; rotate_left; (focus (intro wq hSw; have hrd : ∀ b o, b < w8.heap.size → wq.cell? ⟨b, o, none⟩ = w8.cell? ⟨b, o, none⟩ := (fun b o h => hSw.cell (p := ⟨b, o, none⟩) h); go_simp; try with_reducible rfl; done)); try simp only [Act.put, List.setIfInBounds_toArray, List.set_cons_zero, List.set_cons_succ])
  (refine held_takeA 8 (by rfl) ?_ (by kernel_rfl) (fun _ _ _ h => h) hs3r ?_ ?_; rotate_left; (focus (intro wq hSw; have q := run_str wq (hp2.below hSw) cp2; go_simp; try with_reducible rfl; done)); simp only [Act.put, List.setIfInBounds_toArray, List.set_cons_zero, List.set_cons_succ])
  (refine held_takeA 9 (by rfl) ?_ (by kernel_rfl) (fun _ _ _ h => h) hs3r ?_ ?_; rotate_left; (focus (intro wq hSw; have hrd : ∀ b o, b < w8.heap.size → wq.cell? ⟨b, o, none⟩ = w8.cell? ⟨b, o, none⟩ := (fun b o h => hSw.cell (p := ⟨b, o, none⟩) h); go_simp; try with_reducible rfl; done)); try simp only [Act.put, List.setIfInBounds_toArray, List.set_cons_zero, List.set_cons_succ])
  (refine held_takeA 10 (by rfl) ?_ (by kernel_rfl) (fun _ _ _ h => h) hs3r ?_ ?_; rotate_left; (focus (intro wq hSw; have hrd : ∀ b o, b < w8.heap.size → wq.cell? ⟨b, o, none⟩ = w8.cell? ⟨b, o, none⟩ := (fun b o h => hSw.cell (p := ⟨b, o, none⟩) h); go_simp; try with_reducible rfl; done)); try simp only [Act.put, List.setIfInBounds_toArray, List.set_cons_zero, List.set_cons_succ])
  (refine held_takeA 11 (by rfl) ?_ (by kernel_rfl) (fun _ _ _ h => h) hs3r ?_ ?_; rotate_left; (focus (intro wq hSw; have hrd : ∀ b o, b < w8.heap.size → wq.cell? ⟨b, o, none⟩ = w8.cell? ⟨b, o, none⟩ := (fun b o h => hSw.cell (p := ⟨b, o, none⟩) h); go_simp; try with_reducible rfl; done)); try simp only [Act.put, List.setIfInBounds_toArray, List.set_cons_zero, List.set_cons_succ])
  (refine held_takeA 12 (by rfl) ?_ (by kernel_rfl) (fun _ _ _ h => h) hs3r ?_ ?_; rotate_left; (focus (intro wq hSw; have hrd : ∀ b o, b < w8.heap.size → wq.cell? ⟨b, o, none⟩ = w8.cell? ⟨b, o, none⟩ := (fun b o h => hSw.cell (p := ⟨b, o, none⟩) h); go_simp; try with_reducible rfl; done)); try simp only [Act.put, List.setIfInBounds_toArray, List.set_cons_zero, List.set_cons_succ])
  (refine held_takeA 13 (by rfl) ?_ (by kernel_rfl) (fun _ _ _ h => h) hs3r ?_ ?_; rotate_left; (focus (intro wq hSw; have hrd : ∀ b o, b < w8.heap.size → wq.cell? ⟨b, o, none⟩ = w8.cell? ⟨b, o, none⟩ := (fun b o h => hSw.cell (p := ⟨b, o, none⟩) h); go_simp; try with_reducible rfl; done)); try simp only [Act.put, List.setIfInBounds_toArray, List.set_cons_zero, List.set_cons_succ])
  (refine held_takeA 14 (by rfl) ?_ (by kernel_rfl) (fun _ _ _ h => h) hs3r ?_ ?_; rotate_left; (focus (intro wq hSw; have hrd : ∀ b o, b < w8.heap.size → wq.cell? ⟨b, o, none⟩ = w8.cell? ⟨b, o, none⟩ := (fun b o h => hSw.cell (p := ⟨b, o, none⟩) h); go_simp; try with_reducible rfl; done)); try simp only [Act.put, List.setIfInBounds_toArray, List.set_cons_zero, List.set_cons_succ])
  (refine held_takeA 15 (by rfl) ?_ (by kernel_rfl) (fun _ _ _ h => h) hs3r ?_ ?_; rotate_left; (focus (intro wq hSw; have hrd : ∀ b o, b < w8.heap.size → wq.cell? ⟨b, o, none⟩ = w8.cell? ⟨b, o, none⟩ := (fun b o h => hSw.cell (p := ⟨b, o, none⟩) h); go_simp; try with_reducible rfl; done)); try simp only [Act.put, List.setIfInBounds_toArray, List.set_cons_zero, List.set_cons_succ])
  (refine held_takeA 16 (by rfl) ?_ (by kernel_rfl) (fun _ _ _ h => h) hs3r ?_ ?_; rotate_left; (focus (intro wq hSw; have hrd : ∀ b o, b < w8.heap.size → wq.cell? ⟨b, o, none⟩ = w8.cell? ⟨b, o, none⟩ := (fun b o h => hSw.cell (p := ⟨b, o, none⟩) h); go_simp; try with_reducible rfl; done)); try simp only [Act.put, List.setIfInBounds_toArray, List.set_cons_zero, List.set_cons_succ])
  (refine held_takeA 17 (by rfl) ?_ (by kernel_rfl) (fun _ _ _ h => h) hs3r ?_ ?_; rotate_left; (focus (intro wq hSw; have hrd : ∀ b o, b < w8.heap.size → wq.cell? ⟨b, o, none⟩ = w8.cell? ⟨b, o, none⟩ := (fun b o h => hSw.cell (p := ⟨b, o, none⟩) h); go_simp; try with_reducible rfl; done)); try simp only [Act.put, List.setIfInBounds_toArray, List.set_cons_zero, List.set_cons_succ])
  (refine held_takeA 18 (by rfl) ?_ (by kernel_rfl) (fun _ _ _ h => h) hs3r ?_ ?_; rotate_left; (focus (intro wq hSw; have q := run_str wq (hx3.below hSw) cx3; go_simp; try with_reducible rfl; done)); simp only [Act.put, List.setIfInBounds_toArray, List.set_cons_zero, List.set_cons_succ])
  (refine held_takeA 19 (by rfl) ?_ (by kernel_rfl) (fun _ _ _ h => h) hs3r ?_ ?_; rotate_left; (focus (intro wq hSw; have hrd : ∀ b o, b < w8.heap.size → wq.cell? ⟨b, o, none⟩ = w8.cell? ⟨b, o, none⟩ := (fun b o h => hSw.cell (p := ⟨b, o, none⟩) h); go_simp; try with_reducible rfl; done)); try simp only [Act.put, List.setIfInBounds_toArray, List.set_cons_zero, List.set_cons_succ])
  (refine held_takeA 20 (by rfl) ?_ (by kernel_rfl) (fun _ _ _ h => h) hs3r ?_ ?_; rotate_left; (focus (intro wq hSw; have q := run_str wq (hx4.below hSw) cx4; go_simp; try with_reducible rfl; done)); simp only [Act.put, List.setIfInBounds_toArray, List.set_cons_zero, List.set_cons_succ])
  (refine held_takeA 21 (by rfl) ?_ (by kernel_rfl) (fun _ _ _ h => h) hs3r ?_ ?_; rotate_left; (focus (intro wq hSw; have hrd : ∀ b o, b < w8.heap.size → wq.cell? ⟨b, o, none⟩ = w8.cell? ⟨b, o, none⟩ := (fun b o h => hSw.cell (p := ⟨b, o, none⟩) h); go_simp; try with_reducible rfl; done)); try simp only [Act.put, List.setIfInBounds_toArray, List.set_cons_zero, List.set_cons_succ])
  (refine held_takeA 22 (by rfl) ?_ (by kernel_rfl) (fun _ _ _ h => h) hs3r ?_ ?_; rotate_left; (focus (intro wq hSw; have hrd : ∀ b o, b < w8.heap.size → wq.cell? ⟨b, o, none⟩ = w8.cell? ⟨b, o, none⟩ := (fun b o h => hSw.cell (p := ⟨b, o, none⟩) h); go_simp; try with_reducible rfl; done)); try simp only [Act.put, List.setIfInBounds_toArray, List.set_cons_zero, List.set_cons_succ])
  (refine held_takeA 23 (by rfl) ?_ (by kernel_rfl) (fun _ _ _ h => h) hs3r ?_ ?_; rotate_left; (focus (intro wq hSw; have hrd : ∀ b o, b < w8.heap.size → wq.cell? ⟨b, o, none⟩ = w8.cell? ⟨b, o, none⟩ := (fun b o h => hSw.cell (p := ⟨b, o, none⟩) h); go_simp; try with_reducible rfl; done)); try simp only [Act.put, List.setIfInBounds_toArray, List.set_cons_zero, List.set_cons_succ])
  (refine held_takeA 24 (by rfl) ?_ (by kernel_rfl) (fun _ _ _ h => h) hs3r ?_ ?_; rotate_left; (focus (intro wq hSw; have hrd : ∀ b o, b < w8.heap.size → wq.cell? ⟨b, o, none⟩ = w8.cell? ⟨b, o, none⟩ := (fun b o h => hSw.cell (p := ⟨b, o, none⟩) h); go_simp; try with_reducible rfl; done)); try simp only [Act.put, List.setIfInBounds_toArray, List.set_cons_zero, List.set_cons_succ])
  (refine held_takeA 25 (by rfl) ?_ (by kernel_rfl) (fun _ _ _ h => h) hs3r ?_ ?_; rotate_left; (focus (intro wq hSw; have hrd : ∀ b o, b < w8.heap.size → wq.cell? ⟨b, o, none⟩ = w8.cell? ⟨b, o, none⟩ := (fun b o h => hSw.cell (p := ⟨b, o, none⟩) h); go_simp; try with_reducible rfl; done)); try simp only [Act.put, List.setIfInBounds_toArray, List.set_cons_zero, List.set_cons_succ])
  (refine held_takeA 26 (by rfl) ?_ (by kernel_rfl) (fun _ _ _ h => h) hs3r ?_ ?_; rotate_left; (focus (intro wq hSw; have hrd : ∀ b o, b < w8.heap.size → wq.cell? ⟨b, o, none⟩ = w8.cell? ⟨b, o, none⟩ := (fun b o h => hSw.cell (p := ⟨b, o, none⟩) h); go_simp; try with_reducible rfl; done)); try simp only [Act.put, List.setIfInBounds_toArray, List.set_cons_zero, List.set_cons_succ])
  (refine held_takeA 27 (by rfl) ?_ (by kernel_rfl) (fun _ _ _ h => h) hs3r ?_ ?_; rotate_left; (focus (intro wq hSw; have hrd : ∀ b o, b < w8.heap.size → wq.cell? ⟨b, o, none⟩ = w8.cell? ⟨b, o, none⟩ := (fun b o h => hSw.cell (p := ⟨b, o, none⟩) h); go_simp; try with_reducible rfl; done)); try simp only [Act.put, List.setIfInBounds_toArray, List.set_cons_zero, List.set_cons_succ])
  (refine held_takeA 28 (by rfl) ?_ (by kernel_rfl) (fun _ _ _ h => h) hs3r ?_ ?_; rotate_left; (focus (intro wq hSw; have hrd : ∀ b o, b < w8.heap.size → wq.cell? ⟨b, o, none⟩ = w8.cell? ⟨b, o, none⟩ := (fun b o h => hSw.cell (p := ⟨b, o, none⟩) h); go_simp; try with_reducible rfl; done)); try simp only [Act.put, List.setIfInBounds_toArray, List.set_cons_zero, List.set_cons_succ])
  (refine held_takeA 29 (by rfl) ?_ (by kernel_rfl) (fun _ _ _ h => h) hs3r ?_ ?_; rotate_left; (focus (intro wq hSw; have hrd : ∀ b o, b < w8.heap.size → wq.cell? ⟨b, o, none⟩ = w8.cell? ⟨b, o, none⟩ := (fun b o h => hSw.cell (p := ⟨b, o, none⟩) h); go_simp; try with_reducible rfl; done)); try simp only [Act.put, List.setIfInBounds_toArray, List.set_cons_zero, List.set_cons_succ])
  (refine held_takeA 30 (by rfl) ?_ (by kernel_rfl) (fun _ _ _ h => h) hs3r ?_ ?_; rotate_left; (focus (intro wq hSw; have q := run_str wq (hx5.below hSw) cx5; go_simp; try with_reducible rfl; done)); simp only [Act.put, List.setIfInBounds_toArray, List.set_cons_zero, List.set_cons_succ])
  (refine held_takeA 31 (by rfl) ?_ (by kernel_rfl) (fun _ _ _ h => h) hs3r ?_ ?_; rotate_left; (focus (intro wq hSw; have hrd : ∀ b o, b < w8.heap.size → wq.cell? ⟨b, o, none⟩ = w8.cell? ⟨b, o, none⟩ := (fun b o h => hSw.cell (p := ⟨b, o, none⟩) h); go_simp; try with_reducible rfl; done)); try simp only [Act.put, List.setIfInBounds_toArray, List.set_cons_zero, List.set_cons_succ])
  (refine held_takeA 32 (by rfl) ?_ (by kernel_rfl) (fun _ _ _ h => h) hs3r ?_ ?_; rotate_left; (focus (intro wq hSw; have q := run_str wq (hx6.below hSw) cx6; go_simp; try with_reducible rfl; done)); simp only [Act.put, List.setIfInBounds_toArray, List.set_cons_zero, List.set_cons_succ])
  (refine held_takeA 33 (by rfl) ?_ (by kernel_rfl) (fun _ _ _ h => h) hs3r ?_ ?_; rotate_left; (focus (intro wq hSw; have hrd : ∀ b o, b < w8.heap.size → wq.cell? ⟨b, o, none⟩ = w8.cell? ⟨b, o, none⟩ := (fun b o h => hSw.cell (p := ⟨b, o, none⟩) h); go_simp; try with_reducible rfl; done)); try simp only [Act.put, List.setIfInBounds_toArray, List.set_cons_zero, List.set_cons_succ])
  (refine held_takeA 34 (by rfl) ?_ (by kernel_rfl) (fun _ _ _ h => h) hs3r ?_ ?_; rotate_left; (focus (intro wq hSw; have hrd : ∀ b o, b < w8.heap.size → wq.cell? ⟨b, o, none⟩ = w8.cell? ⟨b, o, none⟩ := (fun b o h => hSw.cell (p := ⟨b, o, none⟩) h); go_simp; try with_reducible rfl; done)); try simp only [Act.put, List.setIfInBounds_toArray, List.set_cons_zero, List.set_cons_succ])
  (refine held_takeA 35 (by rfl) ?_ (by kernel_rfl) (fun _ _ _ h => h) hs3r ?_ ?_; rotate_left; (focus (intro wq hSw; have hrd : ∀ b o, b < w8.heap.size → wq.cell? ⟨b, o, none⟩ = w8.cell? ⟨b, o, none⟩ := (fun b o h => hSw.cell (p := ⟨b, o, none⟩) h); go_simp; try with_reducible rfl; done)); try simp only [Act.put, List.setIfInBounds_toArray, List.set_cons_zero, List.set_cons_succ])
  (refine held_takeA 36 (by rfl) ?_ (by kernel_rfl) (fun _ _ _ h => h) hs3r ?_ ?_; rotate_left; (focus (intro wq hSw; have hrd : ∀ b o, b < w8.heap.size → wq.cell? ⟨b, o, none⟩ = w8.cell? ⟨b, o, none⟩ := (fun b o h => hSw.cell (p := ⟨b, o, none⟩) h); go_simp; try with_reducible rfl; done)); try simp only [Act.put, List.setIfInBounds_toArray, List.set_cons_zero, List.set_cons_succ])
  (refine held_takeA 37 (by rfl) ?_ (by kernel_rfl) (fun _ _ _ h => h) hs3r ?_ ?_; rotate_left; (focus (intro wq hSw; have hrd : ∀ b o, b < w8.heap.size → wq.cell? ⟨b, o, none⟩ = w8.cell? ⟨b, o, none⟩ := (fun b o h => hSw.cell (p := ⟨b, o, none⟩) h); go_simp; try with_reducible rfl; done)); try simp only [Act.put, List.setIfInBounds_toArray, List.set_cons_zero, List.set_cons_succ])
  (refine held_takeA 38 (by rfl) ?_ (by kernel_rfl) (fun _ _ _ h => h) hs3r ?_ ?_; rotate_left; (focus (intro wq hSw; have hrd : ∀ b o, b < w8.heap.size → wq.cell? ⟨b, o, none⟩ = w8.cell? ⟨b, o, none⟩ := (fun b o h => hSw.cell (p := ⟨b, o, none⟩) h); go_simp; try with_reducible rfl; done)); try simp only [Act.put, List.setIfInBounds_toArray, List.set_cons_zero, List.set_cons_succ])
  (refine held_takeA 39 (by rfl) ?_ (by kernel_rfl) (fun _ _ _ h => h) hs3r ?_ ?_; rotate_left; (focus (intro wq hSw; have hrd : ∀ b o, b < w8.heap.size → wq.cell? ⟨b, o, none⟩ = w8.cell? ⟨b, o, none⟩ := (fun b o h => hSw.cell (p := ⟨b, o, none⟩) h); go_simp; try with_reducible rfl; done)); try simp only [Act.put, List.setIfInBounds_toArray, List.set_cons_zero, List.set_cons_succ])
  (refine held_takeA 40 (by rfl) ?_ (by kernel_rfl) (fun _ _ _ h => h) hs3r ?_ ?_; rotate_left; (focus (intro wq hSw; have hrd : ∀ b o, b < w8.heap.size → wq.cell? ⟨b, o, none⟩ = w8.cell? ⟨b, o, none⟩ := (fun b o h => hSw.cell (p := ⟨b, o, none⟩) h); go_simp; try with_reducible rfl; done)); try simp only [Act.put, List.setIfInBounds_toArray, List.set_cons_zero, List.set_cons_succ])
  --@d show
  refine held_callA 41 (by rfl) (by kernel_rfl) (by rfl) (fun KQ hKQ => ?_)
  go_simp
  refine (lives4_any _).mono ?_
  rintro e w9 ⟨rfl, hb9⟩
  refine hKQ.out _ _ (hs3r.trans hb9) (held_mono (S' := fun w' => Below w9.heap.size w9 w') (fun w' h => (hs3r.trans hb9).trans (h.mono (hs3r.trans hb9).size)) _ _ _ _ ?_)
  clear hKQ KQ
  replace hq1 := hq1.below (hs3r.trans hb9) hq1.lt
  replace hq2 := hq2.below (hs3r.trans hb9) hq2.lt
  replace hB := hB.trans ((hs3r.trans hb9).mono hB.size)
  have hs4r : Below w9.heap.size w9 w9 := Below.refl _ _
  try simp only [Act.put, List.setIfInBounds_toArray, List.set_cons_zero, List.set_cons_succ]
  (refine held_takeA 42 (by rfl) ?_ (by kernel_rfl) (fun _ _ _ h => h) hs4r ?_ ?_; rotate_left; (focus (intro wq hSw; have hrd : ∀ b o, b < w9.heap.size → wq.cell? ⟨b, o, none⟩ = w9.cell? ⟨b, o, none⟩ := (fun b o h => hSw.cell (p := ⟨b, o, none⟩) h); go_simp; try with_reducible rfl; done)); try simp only [Act.put, List.setIfInBounds_toArray, List.set_cons_zero, List.set_cons_succ])
  (refine held_takeA 43 (by rfl) ?_ (by kernel_rfl) (fun _ _ _ h => h) hs4r ?_ ?_; rotate_left; (focus (intro wq hSw; have hrd : ∀ b o, b < w9.heap.size → wq.cell? ⟨b, o, none⟩ = w9.cell? ⟨b, o, none⟩ := (fun b o h => hSw.cell (p := ⟨b, o, none⟩) h); go_simp; try with_reducible rfl; done)); try simp only [Act.put, List.setIfInBounds_toArray, List.set_cons_zero, List.set_cons_succ])
  refine wpAnyH_done (by kernel_rfl) ?_ _
  try refine NoPanic.normal ?_
  go_wp2_with fail
  go_ret
  exact ⟨rfl, hB⟩
end Go.Proofs.Ytlkammmadchjnaa
