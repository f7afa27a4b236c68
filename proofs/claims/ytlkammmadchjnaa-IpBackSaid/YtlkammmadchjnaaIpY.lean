/- ip: IpBack, the walk. -/
import Derived.Test.YtlkammmadchjnaaIpX
namespace Go.Proofs.Ytlkammmadchjnaa
set_option linter.unusedVariables false
open Go.RowKit

theorem bytes_three (w : World) : Byt (w.alloc (.cells #[.int .u8 1, .int .u8 2, .int .u8 3] 5)) (w.heap.size + 1) (some ⟨w.heap.size, 0, none⟩) 3 [1, 2, 3] := Byt.new w [1, 2, 3] 5 (0, 0)
theorem strB_list (l : List UInt8) : (strB l).toList = l := by
  rw [Lib.toList_data]; simp [strB]
theorem xor_other (x : Int) (h0 : 0 ≤ x) (h1 : x ≤ 255) (j : Nat) (hj : j < 8) : 0 ≤ bits .xor .u8 x (2 ^ j % 256) ∧ bits .xor .u8 x (2 ^ j % 256) ≤ 255 ∧ bits .xor .u8 x (2 ^ j % 256) ≠ x := by
  have hz : bits .xor .u8 x (2 ^ j % 256) = ((BitVec.ofInt 8 x ^^^ BitVec.ofInt 8 (2 ^ j % 256)).toNat : Int) := by
    show IntKind.u8.wrap ((BitVec.ofInt 8 x ^^^ BitVec.ofInt 8 (2 ^ j % 256)).toNat : Int) = _
    rw [IntKind.wrap_u8]
    have := (BitVec.ofInt 8 x ^^^ BitVec.ofInt 8 (2 ^ j % 256)).isLt
    omega
  have hx : x = ((BitVec.ofInt 8 x).toNat : Int) := by rw [BitVec.toNat_ofInt]; omega
  have hlt := (BitVec.ofInt 8 x ^^^ BitVec.ofInt 8 (2 ^ j % 256)).isLt
  refine ⟨by omega, by omega, fun he => ?_⟩
  rw [hz] at he
  rw [hx] at he
  have e1 : (BitVec.ofInt 8 ((BitVec.ofInt 8 x).toNat : Int)) = BitVec.ofInt 8 x := by rw [← hx]
  rw [e1] at he
  have e2 : BitVec.ofInt 8 x ^^^ BitVec.ofInt 8 (2 ^ j % 256) = BitVec.ofInt 8 x := BitVec.eq_of_toNat_eq (by omega)
  have e3 : BitVec.ofInt 8 (2 ^ j % 256) = 0#8 := by
    have := congrArg (fun v => BitVec.ofInt 8 x ^^^ v) e2
    simpa [← BitVec.xor_assoc] using this
  match j, hj with
  | 0, _ => exact absurd e3 (by decide)
  | 1, _ => exact absurd e3 (by decide)
  | 2, _ => exact absurd e3 (by decide)
  | 3, _ => exact absurd e3 (by decide)
  | 4, _ => exact absurd e3 (by decide)
  | 5, _ => exact absurd e3 (by decide)
  | 6, _ => exact absurd e3 (by decide)
  | 7, _ => exact absurd e3 (by decide)
/-- the packet turned in one place. -/
theorem turned_walk {t i f g u p s d : Int} {o pl L : List UInt8} (b : Built t i f g u p s d o pl L) (hl : L.length = 20 + o.length + pl.length) (idx : Nat) (hidx : idx < 20 + o.length) (z : Int) (z0 : 0 ≤ z) (z1 : z ≤ 255) (hz : z ≠ byAt L idx)
    (he : errV (L.set idx (byOf z)) = 0) (hs : sameH (fT (L.set idx (byOf z))) (fI (L.set idx (byOf z))) (fF (L.set idx (byOf z))) (fG (L.set idx (byOf z))) (fL (L.set idx (byOf z))) (fP (L.set idx (byOf z))) (fS (L.set idx (byOf z))) (fD (L.set idx (byOf z))) (optL (L.set idx (byOf z))) t i f g u p s d o = true) :
    ((strB (payL (L.set idx (byOf z)))).toList == (strB pl).toList) = false := by
  rw [Bool.eq_false_iff]
  intro hp
  unfold sameH at hs
  simp only [Bool.and_eq_true, beq_iff_eq, strB_list] at hs hp
  obtain ⟨⟨⟨⟨⟨⟨⟨⟨h1, h2⟩, h3⟩, h4⟩, h5⟩, h6⟩, h7⟩, h8⟩, h9⟩ := hs
  obtain ⟨e1, e2, e3, e4, e5, e6, e7, e8⟩ := errV_ok he
  refine turned b idx (byOf z) hidx (fun q => hz ?_) ⟨he, ?_, ?_, h1, h2, h3, h4, h5, h6, h7, h8, h9, hp⟩
  · have : byAt L idx = ((byOf z).toNat : Int) := by unfold byAt; rw [q]; rfl
    rw [this, byOf_val, Int.emod_eq_of_lt z0 (by omega)]
  · have := congrArg List.length h9
    unfold optL hdL at this
    rw [if_pos he, List.length_drop, List.length_take] at this
    omega
  · have q1 := congrArg List.length h9
    unfold optL hdL at q1
    rw [if_pos he, List.length_drop, List.length_take] at q1
    have q2 := congrArg List.length hp
    unfold payL at q2
    rw [if_pos he, List.length_take, List.length_drop] at q2
    omega
set_option maxRecDepth 100000 in
set_option maxHeartbeats 8000000 in
theorem back_walk (t i f g l p s d : Int) (A : Option Addr) (n c : Nat) (o : List UInt8) (X : Option Addr) (m k : Nat) (pl : List UInt8) (a : Int) (w : World)
    (w1 : (Lit.int .i64 t).wf = true) (w2 : (Lit.int .i64 i).wf = true) (w3 : (Lit.int .i64 f).wf = true) (w4 : (Lit.int .i64 g).wf = true) (w5 : (Lit.int .i64 l).wf = true) (w6 : (Lit.int .i64 p).wf = true) (w7 : (Lit.int .u32 s).wf = true) (w8 : (Lit.int .u32 d).wf = true)
    (hl0 : n ≤ c) (hm0 : c ≤ maxLen) (hO : Byt w w.heap.size A n o) (hl2 : m ≤ k) (hm2 : k ≤ maxLen) (hP : Byt w w.heap.size X m pl) (w9 : (Lit.int .u64 a).wf = true) :
    Calls Try.prog 4 #[.agg #[.int .i64 t, .int .i64 i, .int .i64 f, .int .i64 g, .int .i64 l, .int .i64 p, .int .u32 s, .int .u32 d, .slice A n c], .slice X m k, .int .u64 a] w fun e w' => e = .returned (.bool true) ∧ Below w.heap.size w w' := by
  obtain ⟨s0, s1⟩ := bounds_u32 w7
  obtain ⟨d0, d1⟩ := bounds_u32 w8
  obtain ⟨x0, x1⟩ := bounds_u64 w9
  clear w1 w2 w3 w4 w5 w6 w7 w8 w9
  unfold maxLen at hm0 hm2
  have hB := (Below.refl w.heap.size w).alloc (Nat.le_refl _) (.cells (hdrCs t i f g l p s d A n c) 25)
  have hq := Blk.new w 25 (hdrCs t i f g l p s d A n c)
  unfold hdrCs at hB hq
  by_cases h1 : 3000 < m
  · have i1 : (3000 : Int) < m := by omega
    clear hO hP hq
    go_enter Try.func4, Try.ntmps4
    go_wp2_with fail
    refine (lives4_any _).mono ?_
    rintro e w9 ⟨rfl, hb⟩
    go_wp2_with fail
    go_ret
    exact ⟨rfl, hB.trans (hb.mono hB.size)⟩
  have i1 : (m : Int) ≤ 3000 := by omega
  replace h1 : m ≤ 3000 := by omega
  by_cases h2 : 300 < n
  · have i2 : (300 : Int) < n := by omega
    clear hO hP hq
    go_enter Try.func4, Try.ntmps4
    go_wp2_with fail
    refine (lives4_any _).mono ?_
    rintro e w9 ⟨rfl, hb⟩
    go_wp2_with fail
    go_ret
    exact ⟨rfl, hB.trans (hb.mono hB.size)⟩
  have i2 : (n : Int) ≤ 300 := by omega
  replace h2 : n ≤ 300 := by omega
  have hi : (Try.prog.info? 25).map (·.size) = some 9 := by kernel_rfl
  have hOb := (hO.below hB).more hB.size
  have hPb := (hP.below hB).more hB.size
  have hlo := hO.1
  have hlp := hP.1
  go_enter Try.func4, Try.ntmps4
  go_wp2_with fail
  generalize w.alloc (.cells _ 25) = w1 at *
  refine (ipBuild_any t i f g l p s d A n c o X m k pl w1 (by omega) (by omega) hOb hPb s0 s1 d0 d1).mono ?_
  rintro e w2 ⟨v2, rfl, own2, hb2⟩
  replace hOb := hOb.nx hb2
  replace hPb := hPb.nx hb2
  replace hB := hB.trans (hb2.mono hB.size)
  replace hq := hq.below hb2 hq.lt
  clear hb2
  by_cases hgd : goodH t i f g l p n = true
  rotate_left
  · have hbl : buildL t i f g l p s d o pl = [] := buildL_no (by rw [hlo]; exact fun q => hgd q.1)
    rw [hbl] at own2
    obtain ⟨B0, c0, rfl, _⟩ := own2.any
    have hg0 : goodH t i f g l p n = false := by simpa using hgd
    simp only [List.length_nil]
    clear own2 hbl hgd
    go_wp2_with (refine wpList_load_blk rfl hq 25 (.tmp 3) rfl rfl Try.underlying25 rfl hi ?_)
    refine (ipGood_any t i f g l p s d A n c _ h2).mono ?_
    rintro e w3 ⟨rfl, hb3⟩
    rw [hg0]
    replace hB := hB.trans (hb3.mono hB.size)
    go_wp2_with fail
    refine (lives4_any _).mono ?_
    rintro e w9 ⟨rfl, hb⟩
    go_wp2_with fail
    go_ret
    exact ⟨rfl, hB.trans (hb.mono hB.size)⟩
  have hn : n ≤ 40 := by have h2 := hgd; simp only [goodH, inH, Bool.and_eq_true, decide_eq_true_eq] at h2; omega
  have hgo : goodH t i f g l p o.length = true := by rw [hlo]; exact hgd
  have hmo : pl.length + o.length ≤ 8980 := by omega
  have hbl := buildL_len (s := s) (d := d) hgo hmo
  have hbu : ∀ tl, Built t i f g l p s d o pl (buildL t i f g l p s d o pl ++ tl) := fun tl => parse_build t i f g l p s d o pl tl hgo hmo s0 s1 d0 d1
  generalize buildL t i f g l p s d o pl = L at *
  have hNB : 20 + n ≤ L.length := by omega
  have hNB2 : L.length ≤ 3340 := by omega
  rw [← hlo] at hn
  replace hgd := Lib.hid hgd
  replace hgo := Lib.hid hgo
  replace hbl := Lib.hid hbl
  replace hlo := Lib.hid hlo
  replace hlp := Lib.hid hlp
  obtain ⟨g0, c0, rfl, hg0, hgs0, hnc0, hcm0⟩ := own2.form (by omega)
  have hby := own2.byt
  have hne : ((L.length : Int) == 0) = false := by rw [beq_eq_false_iff_ne]; omega
  have hcutL : ((a % (L.length : Int)).toNat : Int) = a % (L.length : Int) := by
    have := Int.emod_nonneg a (show (L.length : Int) ≠ 0 by omega); omega
  have hcutlt : (a % (L.length : Int)).toNat < L.length := by
    have := Int.emod_lt_of_pos a (show (0 : Int) < L.length by omega); omega
  have hcu0 : 0 ≤ a % (L.length : Int) := Int.emod_nonneg a (show (L.length : Int) ≠ 0 by omega)
  have hcu1 : a % (L.length : Int) ≤ 3340 := by have := Int.emod_lt_of_pos a (show (0 : Int) < L.length by omega); omega
  have hku0 : 0 ≤ a % (8 * (20 + (n : Int))) := Int.emod_nonneg a (by omega)
  have hku1 : a % (8 * (20 + (n : Int))) < 8 * (20 + n) := Int.emod_lt_of_pos a (by omega)
  obtain ⟨A3, hsl3, hby3⟩ := slice_take (some ⟨g0, 0, none⟩) L.length c0 (a % (L.length : Int)).toNat (by omega) hnc0
  have hcutE : errV (L.take (a % (L.length : Int)).toNat) = 3 := cut_short (by have := hbu []; rwa [List.append_nil] at this) hbl.out _ hcutlt
  rw [hcutL] at hsl3
  generalize (a % (L.length : Int)).toNat = cu at *
  replace hcutE := Lib.hid hcutE
  replace hcutL := Lib.hid hcutL
  have hz2 : w2.heap.size + 1 ≤ w2.heap.size + 1 := Nat.le_refl _
  have hlit := OwnB.lit (base := w2.heap.size) w2 [] (Nat.le_refl _) (by simp)
  rw [show byCells [] = #[] from rfl] at hlit
  replace hlit : OwnB (w2.alloc (.cells #[] 5)) w2.heap.size (.slice (some ⟨w2.heap.size, 0, none⟩) 0 0) 0 [] := hlit
  have hby0 := hby.alloc (Nat.le_refl _) (.cells #[] 5)
  clear own2
  go_wp2_with first
    | (at_builtin; refine wpList_app _ rfl (.tmp 42) (.tmp 43) rfl w2.heap.size _ 0 [] rfl hlit _ _ _ _ _ rfl hby0 (by omega) (by simp) ?_; intro v3 w3 own3 hg3 hd3; clear hd3; have hb3 := ((Below.refl w2.heap.size w2).alloc (Nat.le_refl _) (.cells #[] 5)).trans (hlit.below_app hg3 (by simp)); clear hg3; rw [Nat.zero_add, List.nil_append] at own3; have own3a := own3.alloc (.cells #[.int .u8 1, .int .u8 2, .int .u8 3] 5); have three := bytes_three w3)
    | (at_builtin; refine wpList_app _ rfl (.tmp 44) (.tmp 45) rfl w2.heap.size _ _ _ rfl own3a _ _ 3 3 _ rfl three (by omega) (by have := hb3.size; simp; omega) ?_; intro v4 w4 own4 hg4 hd4; clear hd4; have hb4 := (hb3.alloc hb3.size (.cells #[.int .u8 1, .int .u8 2, .int .u8 3] 5)).trans (own3a.below_app hg4 (by have := hb3.size; simp; omega)); clear hg4; obtain ⟨A4, c4, rfl, hnc4, hby4, _⟩ := own4.any; have hcm4 : c4 ≤ maxLen := (by obtain ⟨_, _, e, _, _, _, hm⟩ := own4.form (by omega); injection e with _ _ e; rw [e]; exact hm))
  replace hOb := hOb.nx hb4
  replace hPb := hPb.nx hb4
  replace hby := hby.nx hb4
  replace hq := hq.below hb4 hq.lt
  replace hB := hB.trans (hb4.mono hB.size)
  have hgs4 : g0 < w4.heap.size := by have := hb4.size; omega
  have hg04 : w.heap.size ≤ w4.heap.size := hB.size
  clear hby0 own3 own3a three hb3 hlit hb4 own4
  refine (ipParse_any w4 A4 _ c4 _ hby4 hnc4 hcm4 (by omega)).mono ?_
  rintro e w5 ⟨vo, vp, rfl, owno, ownp, hb5⟩
  rw [parsed_built (hbu [1, 2, 3])]
  rw [(hbu [1, 2, 3]).o_] at owno
  rw [(hbu [1, 2, 3]).pl_] at ownp
  obtain ⟨Ap1, cp1, rfl, _, hp1, _⟩ := ownp.any
  obtain ⟨Ao1, co1, rfl, _, ho1, _⟩ := owno.any
  clear owno ownp hby4 hnc4 hcm4
  have hbx := (Below.refl w5.heap.size w5).alloc (Nat.le_refl _) (.cells #[.int .i64 t, .int .i64 i, .int .i64 f, .int .i64 g, .int .i64 l, .int .i64 p, .int .u32 s, .int .u32 d, .slice Ao1 o.length co1] 25)
  have hq1 := Blk.new w5 25 #[.int .i64 t, .int .i64 i, .int .i64 f, .int .i64 g, .int .i64 l, .int .i64 p, .int .u32 s, .int .u32 d, .slice Ao1 o.length co1]
  have hb5a := hb5.trans (hbx.mono hb5.size)
  replace hOb := hOb.nx hb5a
  replace hPb := hPb.nx hb5a
  replace hby := hby.nx hb5a
  replace hq := hq.below hb5a hq.lt
  replace hB := hB.trans (hb5a.mono hB.size)
  replace hp1 := hp1.nx hbx
  replace ho1 := ho1.nx hbx
  clear hbx hb5a hb5
  go_wp2_with fail
  generalize w5.alloc (.cells #[.int .i64 t, .int .i64 i, .int .i64 f, .int .i64 g, .int .i64 l, .int .i64 p, .int .u32 s, .int .u32 d, .slice Ao1 o.length co1] 25) = u5 at *
  generalize hG1 : w5.heap.size = G1 at *
  clear hG1
  have hcutby := (hby3 u5 _ L hby)
  refine (ipParse_any u5 A3 _ c0 _ hcutby (by omega) hcm0 (by omega)).mono ?_
  rintro e w6 ⟨vo, vp, rfl, owno, ownp, hb6⟩
  unfold parsed
  rw [hcutE.out]
  obtain ⟨Ap2, cp2, rfl, _, _, _⟩ := ownp.any
  obtain ⟨Ao2, co2, rfl, _, _, _⟩ := owno.any
  clear owno ownp hcutby
  have hbx := (Below.refl w6.heap.size w6).alloc (Nat.le_refl _) (.cells #[.int .i64 (fT (L.take cu)), .int .i64 (fI (L.take cu)), .int .i64 (fF (L.take cu)), .int .i64 (fG (L.take cu)), .int .i64 (fL (L.take cu)), .int .i64 (fP (L.take cu)), .int .u32 (fS (L.take cu)), .int .u32 (fD (L.take cu)), .slice Ao2 (optL (L.take cu)).length co2] 25)
  have hb6a := hb6.trans (hbx.mono hb6.size)
  replace hOb := hOb.nx hb6a
  replace hPb := hPb.nx hb6a
  replace hby := hby.nx hb6a
  replace hp1 := hp1.nx hb6a
  replace ho1 := ho1.nx hb6a
  replace hq := hq.below hb6a hq.lt
  replace hq1 := hq1.below hb6a hq1.lt
  replace hB := hB.trans (hb6a.mono hB.size)
  clear hbx hb6a hb6
  have p0 := hq1.cellv 0 (v := .int .i64 t) rfl
  have p1 := hq1.cellv 1 (v := .int .i64 i) rfl
  have p2 := hq1.cellv 2 (v := .int .i64 f) rfl
  have p3 := hq1.cellv 3 (v := .int .i64 g) rfl
  have p4 := hq1.cellv 4 (v := .int .i64 l) rfl
  have p5 := hq1.cellv 5 (v := .int .i64 p) rfl
  have p6 := hq1.cellv 6 (v := .int .u32 s) rfl
  have p7 := hq1.cellv 7 (v := .int .u32 d) rfl
  have p8 := hq1.cellv 8 (v := .slice Ao1 o.length co1) rfl
  have q0 := hq.cellv 0 (v := .int .i64 t) rfl
  have q1 := hq.cellv 1 (v := .int .i64 i) rfl
  have q2 := hq.cellv 2 (v := .int .i64 f) rfl
  have q3 := hq.cellv 3 (v := .int .i64 g) rfl
  have q4 := hq.cellv 4 (v := .int .i64 l) rfl
  have q5 := hq.cellv 5 (v := .int .i64 p) rfl
  have q6 := hq.cellv 6 (v := .int .u32 s) rfl
  have q7 := hq.cellv 7 (v := .int .u32 d) rfl
  have q8 := hq.cellv 8 (v := .slice A n c) rfl
  go_wp2_with fail
  clear p0 p1 p2 p3 p4 p5 p6 p7 p8 q0 q1 q2 q3 q4 q5 q6 q7 q8
  generalize w6.alloc (.cells #[.int .i64 (fT (L.take cu)), .int .i64 (fI (L.take cu)), .int .i64 (fF (L.take cu)), .int .i64 (fG (L.take cu)), .int .i64 (fL (L.take cu)), .int .i64 (fP (L.take cu)), .int .u32 (fS (L.take cu)), .int .u32 (fD (L.take cu)), .slice Ao2 (optL (L.take cu)).length co2] 25) = u6 at *
  refine (ipSame_any t i f g l p s d Ao1 _ co1 o t i f g l p s d A n c o _ _ u6 ho1 hOb (Nat.le_refl _) (Nat.le_refl _)).mono ?_
  rintro e w7 ⟨rfl, hb7⟩
  rw [sameH_refl]
  replace hOb := hOb.nx hb7
  replace hPb := hPb.nx hb7
  replace hby := hby.nx hb7
  replace hp1 := hp1.nx hb7
  replace hq := hq.below hb7 hq.lt
  replace hB := hB.trans (hb7.mono hB.size)
  have r1 := run_str w7 hp1 cp1
  have r2 := run_str w7 hPb k
  have hlit : OwnB (w7.alloc (.cells #[] 5)) w7.heap.size (.slice (some ⟨w7.heap.size, 0, none⟩) 0 0) 0 [] := by
    have := OwnB.lit (base := w7.heap.size) w7 [] (Nat.le_refl _) (by simp)
    rw [show byCells [] = #[] from rfl] at this
    exact this
  have hby0 := hby.alloc (Nat.le_refl _) (.cells #[] 5)
  have ql := hq.lt
  clear hq1 ho1 hp1 hb7
  have ok0 : ∀ w8, Below w7.heap.size w7 w8 → w8.cell? ⟨w.heap.size, 8, none⟩ = some (.slice A n c) := fun w8 h8 => (hq.below h8 ql).cellv 8 rfl
  go_wp2_with (at_builtin; refine wpList_app _ rfl (.tmp 83) (.tmp 84) rfl w7.heap.size _ 0 [] rfl hlit _ _ _ _ _ rfl hby0 (by omega) (by simp) ?_; intro v8 w8 own8 hg8 hd8; clear hd8; have hb8 := ((Below.refl w7.heap.size w7).alloc (Nat.le_refl _) (.cells #[] 5)).trans (hlit.below_app hg8 (by simp)); clear hg8; rw [Nat.zero_add, List.nil_append] at own8; have cO := ok0 w8 hb8; obtain ⟨g8, c8, rfl, hg8, hgs8, hnc8, hcm8⟩ := own8.form (by omega); have cK := own8.cell (a % (8 * (20 + (n : Int))) / 8).toNat (by omega); have cF := own8.free (a % (8 * (20 + (n : Int))) / 8).toNat)
  obtain ⟨IX, hIX⟩ : ∃ IX, IX = (a % (8 * (20 + (n : Int))) / 8).toNat := ⟨_, rfl⟩
  rw [← hIX] at cK cF ⊢
  have hxo := xor_other (byAt L IX) (byAt_lo L IX) (byAt_hi L IX) (a % 8).toNat (by omega)
  have hIXlt : IX < 20 + n := by omega
  generalize hzz : bits .xor .u8 (byAt L IX) (2 ^ (a % 8).toNat % 256) = z at *
  obtain ⟨z0, z1, zne⟩ := hxo
  have hst := own8.store IX z z0 z1
  have hgr := grown_setCell (grown_refl w8 (some g8)) (p := ⟨g8, IX, none⟩) (.inl rfl) (.int .u8 z)
  have hb9 := below_own hb8 hgr hb8.size hg8
  generalize w8.setCell ⟨g8, IX, none⟩ (.int .u8 z) = w9 at *
  have htw := turned_walk (by have := hbu []; rwa [List.append_nil] at this) hbl.out IX (by rw [hlo.out]; exact hIXlt) z z0 z1 zne
  generalize hXL : L.set IX (byOf z) = XL at *
  clear hzz hgr own8 cK cF cO ok0 hlit hby0 r1 r2 hXL zne z0 z1
  replace htw := Lib.hid htw
  replace hOb := hOb.nx hb9
  replace hPb := hPb.nx hb9
  replace hq := hq.below hb9 hq.lt
  replace hB := hB.trans (hb9.mono hB.size)
  clear hb8 hb9 hby
  refine (ipParse_any w9 _ _ c8 XL hst.byt hnc8 hcm8 (by omega)).mono ?_
  rintro e w10 ⟨vo, vp, rfl, owno, ownp, hb10⟩
  unfold parsed
  obtain ⟨Ap3, cp3, rfl, _, hp3, _⟩ := ownp.any
  obtain ⟨Ao3, co3, rfl, _, ho3, _⟩ := owno.any
  have hoL := optL_len XL
  clear owno ownp hst
  have hbx := (Below.refl w10.heap.size w10).alloc (Nat.le_refl _) (.cells #[.int .i64 (fT XL), .int .i64 (fI XL), .int .i64 (fF XL), .int .i64 (fG XL), .int .i64 (fL XL), .int .i64 (fP XL), .int .u32 (fS XL), .int .u32 (fD XL), .slice Ao3 (optL XL).length co3] 25)
  have hq3 := Blk.new w10 25 #[.int .i64 (fT XL), .int .i64 (fI XL), .int .i64 (fF XL), .int .i64 (fG XL), .int .i64 (fL XL), .int .i64 (fP XL), .int .u32 (fS XL), .int .u32 (fD XL), .slice Ao3 (optL XL).length co3]
  have hb10a := hb10.trans (hbx.mono hb10.size)
  replace hOb := hOb.nx hb10a
  replace hPb := hPb.nx hb10a
  replace hp3 := hp3.nx hbx
  replace ho3 := ho3.nx hbx
  replace hq := hq.below hb10a hq.lt
  replace hB := hB.trans (hb10a.mono hB.size)
  clear hbx hb10a hb10
  by_cases he : errV XL = 0
  rotate_left
  · have hb : (errV XL != 0) = true := by simpa using he
    replace he := Lib.hid he
    go_wp2_with fail
    refine (lives4_any _).mono ?_
    rintro e w11 ⟨rfl, hb⟩
    go_wp2_with fail
    go_ret
    exact ⟨rfl, hB.trans (hb.mono hB.size)⟩
  rw [he]
  have htw2 := htw.out he
  replace htw2 := Lib.hid htw2
  replace he := Lib.hid he
  have p0 := hq3.cellv 0 (v := .int .i64 (fT XL)) rfl
  have p1 := hq3.cellv 1 (v := .int .i64 (fI XL)) rfl
  have p2 := hq3.cellv 2 (v := .int .i64 (fF XL)) rfl
  have p3 := hq3.cellv 3 (v := .int .i64 (fG XL)) rfl
  have p4 := hq3.cellv 4 (v := .int .i64 (fL XL)) rfl
  have p5 := hq3.cellv 5 (v := .int .i64 (fP XL)) rfl
  have p6 := hq3.cellv 6 (v := .int .u32 (fS XL)) rfl
  have p7 := hq3.cellv 7 (v := .int .u32 (fD XL)) rfl
  have p8 := hq3.cellv 8 (v := .slice Ao3 (optL XL).length co3) rfl
  have q0 := hq.cellv 0 (v := .int .i64 t) rfl
  have q1 := hq.cellv 1 (v := .int .i64 i) rfl
  have q2 := hq.cellv 2 (v := .int .i64 f) rfl
  have q3 := hq.cellv 3 (v := .int .i64 g) rfl
  have q4 := hq.cellv 4 (v := .int .i64 l) rfl
  have q5 := hq.cellv 5 (v := .int .i64 p) rfl
  have q6 := hq.cellv 6 (v := .int .u32 s) rfl
  have q7 := hq.cellv 7 (v := .int .u32 d) rfl
  have q8 := hq.cellv 8 (v := .slice A n c) rfl
  go_wp2_with fail
  clear p0 p1 p2 p3 p4 p5 p6 p7 p8 q0 q1 q2 q3 q4 q5 q6 q7 q8
  generalize w10.alloc (.cells #[.int .i64 (fT XL), .int .i64 (fI XL), .int .i64 (fF XL), .int .i64 (fG XL), .int .i64 (fL XL), .int .i64 (fP XL), .int .u32 (fS XL), .int .u32 (fD XL), .slice Ao3 (optL XL).length co3] 25) = u10 at *
  refine (ipSame_any _ _ _ _ _ _ _ _ Ao3 _ co3 (optL XL) t i f g l p s d A n c o _ _ u10 ho3 hOb (Nat.le_refl _) (Nat.le_refl _)).mono ?_
  rintro e w11 ⟨rfl, hb11⟩
  replace hPb := hPb.nx hb11
  replace hp3 := hp3.nx hb11
  replace hB := hB.trans (hb11.mono hB.size)
  have r1 := run_str w11 hp3 cp3
  have r2 := run_str w11 hPb k
  cases hsm : sameH (fT XL) (fI XL) (fF XL) (fG XL) (fL XL) (fP XL) (fS XL) (fD XL) (optL XL) t i f g l p s d o with
  | false =>
    clear htw2 htw r1 r2
    replace hsm := Lib.hid hsm
    go_wp2_with fail
    refine (lives4_any _).mono ?_
    rintro e w12 ⟨rfl, hb⟩
    go_wp2_with fail
    go_ret
    exact ⟨rfl, hB.trans (hb.mono hB.size)⟩
  | true =>
    have hfin := htw2.out hsm
    have hfin2 : ((strB (payL XL)).toList != (strB pl).toList) = true := by rw [bne, hfin]; rfl
    replace hsm := Lib.hid hsm
    go_wp2_with fail
    refine (lives4_any _).mono ?_
    rintro e w12 ⟨rfl, hb⟩
    go_wp2_with fail
    go_ret
    exact ⟨rfl, hB.trans (hb.mono hB.size)⟩
end Go.Proofs.Ytlkammmadchjnaa
