/- tunnel: TunnelLong, the walk. -/
import Derived.Test.YtnjbnnceeecekaaTunD
namespace Go.Proofs.Ytnjbnnceeecekaa
set_option linter.unusedVariables false
open Go.RowKit

set_option maxRecDepth 100000 in
set_option maxHeartbeats 4000000 in
theorem long_walk (p s d sp dp n : Int) (w : World) (w0 : (Lit.int .i64 p).wf = true) (w1 : (Lit.int .u32 s).wf = true) (w2 : (Lit.int .u32 d).wf = true) (w3 : (Lit.int .i64 sp).wf = true) (w4 : (Lit.int .i64 dp).wf = true) (w5 : (Lit.int .u16 n).wf = true) :
    Calls Try.prog 6 #[.agg #[.int .i64 p, .int .u32 s, .int .u32 d, .int .i64 sp, .int .i64 dp], .int .u16 n] w fun e w' => e = .returned (.bool true) ∧ Below w.heap.size w w' := by
  obtain ⟨s0, s1⟩ := bounds_u32 w1
  obtain ⟨d0, d1⟩ := bounds_u32 w2
  obtain ⟨n0, n1⟩ := bounds_u16 w5
  clear w0 w1 w2 w3 w4 w5
  have hB := (Below.refl w.heap.size w).alloc (Nat.le_refl _) (.cells (flowV p s d sp dp) 31)
  have hq := Blk.new w 31 (flowV p s d sp dp)
  unfold flowV at hB hq
  have hi : (Try.prog.info? 31).map (·.size) = some 5 := by kernel_rfl
  obtain ⟨k, hk⟩ : ∃ k : Nat, (k : Int) = 8900 + n % 73 := ⟨(8900 + n % 73).toNat, by omega⟩
  have hk1 : 8900 ≤ k ∧ k ≤ 8972 := by omega
  have hki : (k : Int) ≤ 8972 := by omega
  have hkj : (8900 : Int) ≤ k := by omega
  have hmk : ∀ w, (Instr.makeSlice 22 (.int .i64 (k : Int)) (.int .i64 (k : Int))).run Try.prog w = .ok (.slice (some ⟨w.heap.size, 0, none⟩) k k) (w.alloc (.cells (byCells (List.replicate k 0)) 5)) := fun w => by
    have := run_mk k k (Nat.le_refl _) (by omega) w
    rw [made_zero] at this; exact this
  rw [hk] at hmk
  go_enter Try.func6, Try.ntmps6
  go_wp2_with fail
  generalize w.alloc (.cells _ 31) = w1 at *
  refine (portsGood_any p s d sp dp w1).mono ?_
  rintro e w2 ⟨rfl, hb2⟩
  replace hB := hB.trans (hb2.mono hB.size)
  replace hq := hq.below hb2 hq.lt
  clear hb2
  cases hg : goodF p sp dp with
  | false =>
    clear hmk
    replace hk := Lib.hid hk
    replace hg := Lib.hid hg
    go_wp2_with fail
    refine (lives6_any _).mono ?_
    rintro e w9 ⟨rfl, hb⟩
    go_wp2_with fail
    go_ret
    exact ⟨rfl, hB.trans (hb.mono hB.size)⟩
  | true =>
  have hg17 : goodF 17 sp dp = true := by
    simp only [goodF, Bool.and_eq_true] at hg ⊢
    exact ⟨⟨rfl, hg.1.2⟩, hg.2⟩
  have hrl : (List.replicate k (0 : UInt8)).length = k := List.length_replicate
  have hul := udp_len (s := s) (d := d) (pl := List.replicate k 0) hg17 (by omega)
  have hbt := udp_built (s := s) (d := d) (pl := List.replicate k 0) hg17 (by omega) s0 s1 d0 d1
  have hln := hbt.ln
  have hl8 := udpB_len sp dp (List.replicate k 0)
  rw [setAt_len _ _ _ (by rw [be_len, hl8]; omega), hl8, hrl] at hln
  have hul1 := hul.1
  rw [hrl] at hul1
  have hlb := lnK_lo (udpL s d sp dp (List.replicate k 0))
  generalize hU : udpL s d sp dp (List.replicate k 0) = UL at *
  have hlnk : lnK UL = 28 + k := by simp at hln; omega
  have hwe := wrapE_built hbt
  have hwl : wrapL UL 1 2 = buildL (fT UL) (fI UL) (flagW UL) 0 64 4 1 2 [] (UL.take (lnK UL).toNat) := if_neg (by simpa using hbt.err)
  have htl := take_ln_len hbt.err
  have hwb : lnK UL ≤ 8980 → (wrapL UL 1 2).length = 20 + (lnK UL).toNat := fun h => (wrap_built hbt.err h 1 2 (by omega) (by omega) (by omega) (by omega) []).1
  have hwn : 8980 < lnK UL → wrapL UL 1 2 = [] := fun h => by rw [hwl, buildL_no (by rw [htl]; simp; omega)]
  replace hbt := Lib.hid hbt
  replace hul := Lib.hid hul
  replace hU := Lib.hid hU
  replace hul1 := Lib.hid hul1
  replace hwe := Lib.hid hwe
  replace hwb := Lib.hid hwb
  replace hwn := Lib.hid hwn
  replace hlnk := Lib.hid hlnk
  replace hrl := Lib.hid hrl
  replace hg := Lib.hid hg
  replace hg17 := Lib.hid hg17
  clear hln hl8 hlb hwl htl
  replace hk := Lib.hid hk
  go_wp2_with fail
  have lt2 := hq.lt
  have hz2 := hB.size
  -- region 4: 0 1 2M 3C 4
  try refine wp_region_noPanic ?_
  have hs1r : Below w2.heap.size w2 w2.drew := (Below.refl _ _).drew
  refine wp_region_held_drew (S := fun w' => Below w2.heap.size w2 w') (by kernel_rfl) hs1r (fun _ => ?_)
  (refine held_takeA 0 (by rfl) ?_ (by kernel_rfl) (fun _ _ _ h => h) hs1r ?_ ?_; rotate_left; (focus (intro wq hSw; refine exec_load_blk (x := .tmp 2) ?_ ?_ (hq.below hSw hq.lt) _ Try.underlying31 rfl (by kernel_rfl) <;> rfl)); simp only [Act.put, List.setIfInBounds_toArray, List.set_cons_zero, List.set_cons_succ])
  (refine held_takeA 1 (by rfl) ?_ (by kernel_rfl) (fun _ _ _ h => h) hs1r ?_ ?_; rotate_left; (focus (intro wq hSw; have hrd : ∀ b o, b < w2.heap.size → wq.cell? ⟨b, o, none⟩ = w2.cell? ⟨b, o, none⟩ := (fun b o h => hSw.cell (p := ⟨b, o, none⟩) h); go_simp; try with_reducible rfl; done)); try simp only [Act.put, List.setIfInBounds_toArray, List.set_cons_zero, List.set_cons_succ])
  refine held_callA 2 (by rfl) (by kernel_rfl) (by rfl) (fun KQ hKQ => ?_)
  go_simp
  have hby := (Byt.new w2 (List.replicate k 0) 5 (0, 0)).drew
  rw [hrl.out] at hby
  have hbx := ((Below.refl w2.heap.size w2).alloc (Nat.le_refl _) (.cells (byCells (List.replicate k 0)) 5)).drew
  have hby2 : Byt (w2.alloc (.cells (byCells (List.replicate k 0)) 5)).drew (w2.alloc (.cells (byCells (List.replicate k 0)) 5)).drew.heap.size (some ⟨w2.heap.size, 0, none⟩) k (List.replicate k 0) := hby.more (by simp)
  generalize (w2.alloc (.cells (byCells (List.replicate k 0)) 5)).drew = w3 at *
  generalize w2.heap.size = g2 at hby2 hby ⊢
  have hs2r := hbx
  refine hKQ.out _ _ hs2r ?_
  clear hKQ KQ
  try simp only [Act.put, List.setIfInBounds_toArray, List.set_cons_zero, List.set_cons_succ]
  replace hB := hB.trans (hbx.mono hz2)
  refine held_callA 3 (by rfl) (by kernel_rfl) (by rfl) (fun KQ hKQ => ?_)
  go_simp
  refine (udp_any w3 p s d sp dp _ k k (List.replicate k 0) hby2 (Nat.le_refl _) (by omega) s0 s1 d0 d1).mono ?_
  rintro e w4 ⟨v4, rfl, own4, hb4⟩
  rw [hU.out, hul1.out] at own4
  have hs3r := hbx.trans (hb4.mono hbx.size)
  refine hKQ.out _ _ hs3r ?_
  clear hKQ KQ
  try simp only [Act.put, List.setIfInBounds_toArray, List.set_cons_zero, List.set_cons_succ]
  (refine held_takeA 4 (by rfl) ?_ (by kernel_rfl) (fun _ _ _ h => h) hs3r ?_ ?_; rotate_left; (focus (intro wq hSw; have hrd : ∀ b o, b < w2.heap.size → wq.cell? ⟨b, o, none⟩ = w2.cell? ⟨b, o, none⟩ := (fun b o h => hSw.cell (p := ⟨b, o, none⟩) h); go_simp; try with_reducible rfl; done)); try simp only [Act.put, List.setIfInBounds_toArray, List.set_cons_zero, List.set_cons_succ])
  replace hB := hB.trans (hb4.mono hB.size)
  refine wpAnyH_done (by kernel_rfl) ?_ _
  try refine NoPanic.normal ?_
  obtain ⟨A4, c4, rfl, hc4, hcm4, by4, _⟩ := own4.any2
  clear own4
  have hne : (((28 + k : Nat) : Int) != 28 + (8900 + n % 73)) = false := by have := hk.out; rw [bne_eq_false_iff_eq]; omega
  go_wp2_with fail
  refine (wrap_any w4 A4 _ c4 UL by4 hc4 hcm4 (by omega) 1 2 (by omega) (by omega) (by omega) (by omega)).mono ?_
  rintro e w5 ⟨v5, rfl, own5, hb5⟩
  rw [hwe.out]
  replace hB := hB.trans (hb5.mono hB.size)
  have hlk := hlnk.out
  by_cases hbig : 8980 < lnK UL
  · rw [if_pos hbig]
    rw [hwn.out hbig] at own5
    obtain ⟨A5, c5, rfl, hc5, hcm5, by5, _⟩ := own5.any2
    have ib : (8980 : Int) < 28 + k := by omega
    have ic : (8980 : Int) < ((28 + k : Nat) : Int) := by omega
    clear own5 hbig
    replace hlk := Lib.hid hlk
    simp only [List.length_nil]
    go_wp2_with fail
    refine (lives6_any _).mono ?_
    rintro e w9 ⟨rfl, hb⟩
    go_wp2_with fail
    go_ret
    exact ⟨rfl, hB.trans (hb.mono hB.size)⟩
  · rw [if_neg hbig]
    have hw5 := hwb.out (by omega)
    rw [hw5, show 20 + (lnK UL).toNat = 48 + k from by omega] at own5
    obtain ⟨A5, c5, rfl, hc5, hcm5, by5, _⟩ := own5.any2
    have ib : (28 : Int) + k ≤ 8980 := by omega
    have ic : ((28 + k : Nat) : Int) ≤ 8980 := by omega
    have ie : (((48 + k : Nat) : Int) == ((28 + k : Nat) : Int) + 20) = true := by rw [beq_iff_eq]; omega
    have ie2 : ((48 : Int) + k == 28 + k + 20) = true := by rw [beq_iff_eq]; omega
    clear own5 hbig
    replace hlk := Lib.hid hlk
    replace hw5 := Lib.hid hw5
    go_wp2_with fail
    refine (lives6_any _).mono ?_
    rintro e w9 ⟨rfl, hb⟩
    go_wp2_with fail
    go_ret
    exact ⟨rfl, hB.trans (hb.mono hB.size)⟩
end Go.Proofs.Ytnjbnnceeecekaa
