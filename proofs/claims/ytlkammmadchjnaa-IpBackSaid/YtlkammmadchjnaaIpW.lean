/- ip: IpGoesOn, the walk. -/
import Derived.Test.YtlkammmadchjnaaIpV
namespace Go.Proofs.Ytlkammmadchjnaa
set_option linter.unusedVariables false
open Go.RowKit

theorem goodH_ttl {t i f g l p l' : Int} {n : Nat} (h : goodH t i f g l p n = true) (h0 : 0 ≤ l') (h1 : l' ≤ 255) : goodH t i f g l' p n = true := by
  simp only [goodH, inH, Bool.and_eq_true, decide_eq_true_eq] at h ⊢; omega
theorem fwdE_built {t i f g u p s d : Int} {o pl l : List UInt8} (b : Built t i f g u p s d o pl l) : fwdE l = if u ≤ 1 then 9 else 0 := by
  unfold fwdE
  rw [if_neg (by simpa using b.err), ← fL_by b.err, b.u_]
theorem fwdL_built {t i f g u p s d : Int} {o pl l : List UInt8} (b : Built t i f g u p s d o pl l) (h : 1 < u) : fwdL l = buildL t i f g (u - 1) p s d o pl := by
  unfold fwdL
  rw [if_neg (by simpa using b.err), ← fL_by b.err, b.u_, if_neg (by omega), b.t_, b.i_, b.f_, b.g_, b.p_, b.s_, b.d_, b.o_, b.pl_]
theorem rewL_built {t i f g u p s d : Int} {o pl l : List UInt8} (b : Built t i f g u p s d o pl l) (dst : Int) : rewL l dst = buildL t i f g u p s dst o pl := by
  unfold rewL
  rw [if_neg (by simpa using b.err), b.t_, b.i_, b.f_, b.g_, b.u_, b.p_, b.s_, b.o_, b.pl_]
theorem parsed_built {t i f g u p s d : Int} {o pl l : List UInt8} (b : Built t i f g u p s d o pl l) (vo vp : Value) :
    parsed l vo vp = .tuple #[.agg #[.int .i64 t, .int .i64 i, .int .i64 f, .int .i64 g, .int .i64 u, .int .i64 p, .int .u32 s, .int .u32 d, vo], vp, .int .i64 0] := by
  unfold parsed
  rw [b.err, b.t_, b.i_, b.f_, b.g_, b.u_, b.p_, b.s_, b.d_]
theorem parse_build0 (t i f g u p s d : Int) (o pl : List UInt8) (hg : goodH t i f g u p o.length = true) (hm : pl.length + o.length ≤ 8980) (s0 : 0 ≤ s) (s1 : s ≤ 4294967295) (d0 : 0 ≤ d) (d1 : d ≤ 4294967295) :
    Built t i f g u p s d o pl (buildL t i f g u p s d o pl) := by
  have := parse_build t i f g u p s d o pl [] hg hm s0 s1 d0 d1
  rwa [List.append_nil] at this
/-- where the loop stands. -/
def GoesRel (w : World) (t i f g l p s d : Int) (A : Option Addr) (n c : Nat) (o pl : List UInt8) (b k : Value) (wr : World) : Prop :=
  ∃ (j : Nat) (B : Option Addr) (cb : Nat), (j : Int) ≤ 255 ∧ (j = 0 ∨ (j : Int) < l) ∧ k = .int .i64 j ∧ b = .slice B (20 + o.length + pl.length) cb ∧ 20 + o.length + pl.length ≤ cb ∧ cb ≤ maxLen ∧
    Byt wr wr.heap.size B (20 + o.length + pl.length) (buildL t i f g (l - j) p s d o pl) ∧ Below w.heap.size w wr ∧ Blk wr w.heap.size 25 (hdrCs t i f g l p s d A n c)
set_option maxRecDepth 100000 in
set_option maxHeartbeats 8000000 in
theorem goes_walk (t i f g l p s d : Int) (A : Option Addr) (n c : Nat) (o : List UInt8) (X : Option Addr) (m k : Nat) (pl : List UInt8) (dst : Int) (w : World)
    (w1 : (Lit.int .i64 t).wf = true) (w2 : (Lit.int .i64 i).wf = true) (w3 : (Lit.int .i64 f).wf = true) (w4 : (Lit.int .i64 g).wf = true) (w5 : (Lit.int .i64 l).wf = true) (w6 : (Lit.int .i64 p).wf = true) (w7 : (Lit.int .u32 s).wf = true) (w8 : (Lit.int .u32 d).wf = true)
    (hl0 : n ≤ c) (hm0 : c ≤ maxLen) (hO : Byt w w.heap.size A n o) (hl2 : m ≤ k) (hm2 : k ≤ maxLen) (hP : Byt w w.heap.size X m pl) (w9 : (Lit.int .u32 dst).wf = true) :
    Calls Try.prog 6 #[.agg #[.int .i64 t, .int .i64 i, .int .i64 f, .int .i64 g, .int .i64 l, .int .i64 p, .int .u32 s, .int .u32 d, .slice A n c], .slice X m k, .int .u32 dst] w fun e w' => e = .returned (.bool true) ∧ Below w.heap.size w w' := by
  obtain ⟨s0, s1⟩ := bounds_u32 w7
  obtain ⟨d0, d1⟩ := bounds_u32 w8
  obtain ⟨x0, x1⟩ := bounds_u32 w9
  clear w1 w2 w3 w4 w5 w6 w7 w8 w9
  unfold maxLen at hm0 hm2
  have hB := (Below.refl w.heap.size w).alloc (Nat.le_refl _) (.cells (hdrCs t i f g l p s d A n c) 25)
  have hq := Blk.new w 25 (hdrCs t i f g l p s d A n c)
  by_cases h1 : 500 < m
  · have i1 : (500 : Int) < m := by omega
    clear hO hP hq
    unfold hdrCs at hB
    go_enter Try.func6, Try.ntmps6
    go_wp2_with fail
    refine (lives4_any _).mono ?_
    rintro e w9 ⟨rfl, hb⟩
    go_wp2_with fail
    go_ret
    exact ⟨rfl, hB.trans (hb.mono hB.size)⟩
  have i1 : (m : Int) ≤ 500 := by omega
  replace h1 : m ≤ 500 := by omega
  have hgood : ∀ W, Calls Try.prog 8 #[.agg #[.int .i64 t, .int .i64 i, .int .i64 f, .int .i64 g, .int .i64 l, .int .i64 p, .int .u32 s, .int .u32 d, .slice A n c]] W fun e w' => e = .returned (.bool (goodH t i f g l p n)) ∧ Below W.heap.size W w' := fun W => by
    by_cases h2 : 40 < n
    · exact ipGood_big t i f g l p s d A n c W h2 (by omega)
    · exact ipGood_any t i f g l p s d A n c W (by omega)
  unfold hdrCs at hB hq
  go_enter Try.func6, Try.ntmps6
  go_wp2_with fail
  refine (hgood _).mono ?_
  rintro e w1 ⟨rfl, hb1⟩
  replace hB := hB.trans (hb1.mono hB.size)
  replace hq := hq.below hb1 hq.lt
  clear hgood hb1
  cases hg : goodH t i f g l p n with
  | false =>
    go_wp2_with fail
    refine (lives4_any _).mono ?_
    rintro e w9 ⟨rfl, hb⟩
    go_wp2_with fail
    go_ret
    exact ⟨rfl, hB.trans (hb.mono hB.size)⟩
  | true =>
  have hbd : 0 ≤ l ∧ l ≤ 255 ∧ n ≤ 40 := by simp only [goodH, inH, Bool.and_eq_true, decide_eq_true_eq] at hg; omega
  obtain ⟨l0, l1, hn⟩ := hbd
  have hn' : (n : Int) ≤ 300 := by omega
  have hgo : goodH t i f g l p o.length = true := by rw [hO.1]; exact hg
  have hlo := hO.1
  have hlp := hP.1
  have hmo : pl.length + o.length ≤ 8980 := by omega
  have hob : o.length ≤ 40 := by omega
  have hpb : pl.length ≤ 500 := by omega
  have hbl : ∀ u : Int, 0 ≤ u → u ≤ 255 → (buildL t i f g u p s d o pl).length = 20 + o.length + pl.length := fun u u0 u1 => buildL_len (goodH_ttl hgo u0 u1) hmo
  have hbu : ∀ u : Int, 0 ≤ u → u ≤ 255 → Built t i f g u p s d o pl (buildL t i f g u p s d o pl) := fun u u0 u1 => parse_build0 t i f g u p s d o pl (goodH_ttl hgo u0 u1) hmo s0 s1 d0 d1
  replace hg := Lib.hid hg
  replace hgo := Lib.hid hgo
  replace hlo := Lib.hid hlo
  replace hlp := Lib.hid hlp
  replace hbl := Lib.hid hbl
  have c8 := hq.cellv 8 (v := .slice A n c) rfl
  go_wp2_with (refine wpList_load_blk rfl hq 25 (.tmp 3) rfl rfl Try.underlying25 rfl (by kernel_rfl) ?_)
  clear c8
  refine (ipBuild_any t i f g l p s d A n c o X m k pl w1 (by omega) (by omega) ((hO.below hB).more hB.size) ((hP.below hB).more hB.size) s0 s1 d0 d1).mono ?_
  rintro e w2 ⟨v2, rfl, own2, hb2⟩
  rw [hbl.out l l0 l1] at own2
  obtain ⟨B0, c0, rfl, hnc0, hby0, _⟩ := own2.any
  have hcm0 : c0 ≤ maxLen := by
    obtain ⟨_, _, e, _, _, _, hm⟩ := own2.form (by omega)
    injection e with _ _ e
    rw [e]; exact hm
  clear own2
  replace hB := hB.trans (hb2.mono hB.size)
  replace hq := hq.below hb2 hq.lt
  clear hb2
  go_wp2_with fail
  go_loopw [7, 8, 9, 10] (fun b y _ _ wr => GoesRel w t i f g l p s d A n c o pl b y wr) (fun _ n _ _ _ => (l - intOf n).toNat)
  case atStart => exact ⟨0, B0, c0, by omega, .inl rfl, rfl, rfl, hnc0, hcm0, by simpa using hby0, hB, hq⟩
  case round =>
  obtain ⟨j, B, cb, hj, hjl, rfl, rfl, hcb, hcm, hby, hBr, hqr⟩ := hrel
  have u0 : 0 ≤ l - j := by omega
  have u1 : l - j ≤ 255 := by omega
  have hU := hbu (l - j) u0 u1
  have hj3 : (j : Int) ≤ 300 := by omega
  clear hby0 hB hq hnc0 hcm0
  replace hjl := Lib.hid hjl
  go_wp2_with fail
  refine (ipForward_any wr B _ cb _ hby hcb hcm (by omega)).mono ?_
  rintro e w5 ⟨v5, rfl, own5, hb5⟩
  rw [fwdE_built hU]
  have hBr5 := hBr.trans (hb5.mono hBr.size)
  have hqr5 := hqr.below hb5 hqr.lt
  have hby5 := hby.nx hb5
  by_cases hu : 1 < l - j
  · rw [if_neg (by omega)]
    rw [fwdL_built hU hu, hbl.out _ (by omega) (by omega)] at own5
    obtain ⟨B5, c5, rfl, hnc5, hbx5, _⟩ := own5.any
    have hcm5 : c5 ≤ maxLen := by
      obtain ⟨_, _, e, _, _, _, hm⟩ := own5.form (by omega)
      injection e with _ _ e
      rw [e]; exact hm
    clear own5
    go_wp2_with fail
    refine ⟨⟨j + 1, B5, c5, by omega, .inr (by omega), by go_num, rfl, hnc5, hcm5, ?_, hBr5, hqr5⟩, by simp [intOf]; omega⟩
    rw [show l - ((j + 1 : Nat) : Int) = l - j - 1 from by omega]
    exact hbx5
  · rw [if_pos (by omega)]
    clear own5 hby
    have k4 := hqr5.cellv 4 (v := .int .i64 l) rfl
    have hzz : ((l == 0) = true ∧ ((j : Int) != 0) = false) ∨ ((l == 0) = false ∧ ((j : Int) != l - 1) = false) := by
      have := hjl.out
      by_cases hz : l = 0
      · exact .inl ⟨by simpa using hz, by rw [bne_eq_false_iff_eq]; omega⟩
      · exact .inr ⟨by simpa using hz, by rw [bne_eq_false_iff_eq]; omega⟩
    have hU2 : Built t i f g (l - j) p s dst o pl (buildL t i f g (l - j) p s dst o pl) := parse_build0 t i f g (l - j) p s dst o pl (goodH_ttl hgo.out u0 u1) (by omega) s0 s1 x0 x1
    have hbl2 : (buildL t i f g (l - j) p s dst o pl).length = 20 + o.length + pl.length := buildL_len (goodH_ttl hgo.out u0 u1) (by omega)
    replace hbl2 := Lib.hid hbl2
    have hO5 := (hO.below hBr5).more hBr5.size
    have hP5 := (hP.below hBr5).more hBr5.size
    replace hBr := hBr5
    have hbb := hqr5
    rcases hzz with ⟨z1, z2⟩ | ⟨z1, z2⟩
    all_goals
      go_wp2_with fail
      refine (ipParse_any w5 B _ cb _ hby5 hcb hcm (by omega)).mono ?_
      rintro e w6 ⟨vo, vp, rfl, owno, ownp, hb6⟩
      rw [parsed_built hU]
      rw [hU.o_] at owno
      rw [hU.pl_] at ownp
      obtain ⟨Ap1, cp1, rfl, _, hp1, _⟩ := ownp.any
      obtain ⟨Ao1, co1, rfl, _, ho1, _⟩ := owno.any
      clear owno ownp
      have hbx := (Below.refl w6.heap.size w6).alloc (Nat.le_refl _) (.cells #[.int .i64 t, .int .i64 i, .int .i64 f, .int .i64 g, .int .i64 (l - j), .int .i64 p, .int .u32 s, .int .u32 (d), .slice Ao1 o.length co1] 25)
      have hb6a := hb6.trans (hbx.mono hb6.size)
      have k4 := (hqr5.below hb6a hqr5.lt).cellv 4 (v := .int .i64 l) rfl
      have r1 := run_str _ (hp1.nx hbx) cp1
      have r2 := run_str _ (hP5.nx hb6a) k
      go_wp2_with fail
      clear k4 r1 r2 hbx hb6a
      have hbx := (Below.refl w6.heap.size w6).alloc (Nat.le_refl _) (.cells #[.int .i64 t, .int .i64 i, .int .i64 f, .int .i64 g, .int .i64 l, .int .i64 p, .int .u32 s, .int .u32 d, .slice Ao1 o.length co1] 25)
      have hq1 := Blk.new w6 25 #[.int .i64 t, .int .i64 i, .int .i64 f, .int .i64 g, .int .i64 l, .int .i64 p, .int .u32 s, .int .u32 d, .slice Ao1 o.length co1]
      have hb6a := hb6.trans (hbx.mono hb6.size)
      replace hO5 := hO5.nx hb6a
      replace hP5 := hP5.nx hb6a
      replace hby5 := hby5.nx hb6a
      replace ho1 := ho1.nx hbx
      replace hqr5 := hqr5.below hb6a hqr5.lt
      replace hBr := hBr.trans (hb6a.mono hBr.size)
      generalize w6.alloc (.cells #[.int .i64 t, .int .i64 i, .int .i64 f, .int .i64 g, .int .i64 l, .int .i64 p, .int .u32 s, .int .u32 d, .slice Ao1 o.length co1] 25) = w7 at *
      generalize hG1 : w6.heap.size = G1 at *
      clear hG1 hb6a hbx hp1 hb6 hbb
      refine (ipRewrite_any w7 B _ cb _ hby5 hcb hcm (by omega) dst x0 x1).mono ?_
      rintro e w8 ⟨v8, rfl, own8, hb8⟩
      rw [hU.err]
      rw [rewL_built hU, hbl2.out] at own8
      obtain ⟨B8, c8, rfl, hnc8, hby8, _⟩ := own8.any
      have hcm8 : c8 ≤ maxLen := by
        obtain ⟨_, _, e, _, _, _, hm⟩ := own8.form (by omega)
        injection e with _ _ e
        rw [e]; exact hm
      replace hO5 := hO5.nx hb8
      replace ho1 := ho1.nx hb8
      replace hqr5 := hqr5.below hb8 hqr5.lt
      replace hq1 := hq1.below hb8 hq1.lt
      replace hBr := hBr.trans (hb8.mono hBr.size)
      clear own8 hb8 hby5 hP5
      go_wp2_with fail
      refine (ipParse_any w8 B8 _ c8 _ hby8 hnc8 hcm8 (by omega)).mono ?_
      rintro e w9 ⟨vo, vp, rfl, owno, ownp, hb9⟩
      rw [parsed_built hU2]
      rw [hU2.o_] at owno
      obtain ⟨Ap2, cp2, rfl, _, hp2, _⟩ := ownp.any
      obtain ⟨Ao2, co2, rfl, _, ho2, _⟩ := owno.any
      clear owno ownp
      have hbx := (Below.refl w9.heap.size w9).alloc (Nat.le_refl _) (.cells #[.int .i64 t, .int .i64 i, .int .i64 f, .int .i64 g, .int .i64 (l - j), .int .i64 p, .int .u32 s, .int .u32 dst, .slice Ao2 o.length co2] 25)
      have hq2 := Blk.new w9 25 #[.int .i64 t, .int .i64 i, .int .i64 f, .int .i64 g, .int .i64 (l - j), .int .i64 p, .int .u32 s, .int .u32 dst, .slice Ao2 o.length co2]
      have hb9a := hb9.trans (hbx.mono hb9.size)
      replace hO5 := hO5.nx hb9a
      replace ho1 := ho1.nx hb9a
      replace hqr5 := hqr5.below hb9a hqr5.lt
      replace hq1 := hq1.below hb9a hq1.lt
      replace hBr := hBr.trans (hb9a.mono hBr.size)
      unfold hdrCs at hqr5
      have lt1 := hqr5.lt
      have lt2 := hq2.lt
      have lt3 := hq1.lt
      have hi : (Try.prog.info? 25).map (·.size) = some 9 := by kernel_rfl
      go_wp2_with (first | (refine wpList_load_blk rfl hq1 25 (.tmp 12) rfl rfl Try.underlying25 rfl hi ?_) | (refine wpList_load_blk rfl hqr5 25 (.tmp 3) rfl rfl Try.underlying25 rfl hi ?_))
      generalize w9.alloc (.cells #[.int .i64 t, .int .i64 i, .int .i64 f, .int .i64 g, .int .i64 (l - j), .int .i64 p, .int .u32 s, .int .u32 dst, .slice Ao2 o.length co2] 25) = u9 at *
      generalize hG2 : w9.heap.size = G2 at *
      clear hG2 hb9a hbx hb9 hby8 hp2
      refine (ipSame_any t i f g l p s d Ao1 _ co1 o t i f g l p s d A n c o _ _ u9 ho1 hO5 (Nat.le_refl _) (Nat.le_refl _)).mono ?_
      rintro e w10 ⟨rfl, hb10⟩
      rw [sameH_refl]
      replace hqr5 := hqr5.below hb10 hqr5.lt
      replace hq2 := hq2.below hb10 hq2.lt
      replace hBr := hBr.trans (hb10.mono hBr.size)
      have e6 := hqr5.cellv 6 (v := .int .u32 s) rfl
      have e26 := hq2.cellv 6 (v := .int .u32 s) rfl
      have e27 := hq2.cellv 7 (v := .int .u32 dst) rfl
      clear hqr5 hq2 hq1 hb10 ho1 hO5
      go_wp2_with fail
      refine (lives4_any _).mono ?_
      rintro e w11 ⟨rfl, hb11⟩
      go_wp2_with fail
      go_ret
      exact ⟨rfl, hBr.trans (hb11.mono hBr.size)⟩
end Go.Proofs.Ytlkammmadchjnaa
