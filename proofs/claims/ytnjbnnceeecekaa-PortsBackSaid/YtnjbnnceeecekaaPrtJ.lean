/- ports: PortsCuts. -/
import Derived.Test.YtnjbnnceeecekaaPrtI
import Derived.Test.YtnjbnnceeecekaaPrtH
namespace Go.Proofs.Ytnjbnnceeecekaa
set_option linter.unusedVariables false
open Go.RowKit

theorem cut_of {l : List UInt8} {p s d : Int} {pl : List UInt8} (b : Built 0 0 0 0 64 p s d [] pl l) (hl : l.length = 20 + pl.length) (c : Nat) (hc : c < l.length) : sgE (l.take c) = 3 := by
  have h3 : errV (l.take c) = 3 := by
    obtain ⟨e1, e2, e3, e4, e5, e6, e7, e8⟩ := errV_ok b.err
    have hlen : (l.take c).length = c := by rw [List.length_take]; omega
    have hsz := b.sz
    have hln := b.ln
    by_cases h : c < 20
    · exact errV_1 (by omega)
    · have h0 : byAt (l.take c) 0 = byAt l 0 := byAt_take _ _ _ (by omega)
      have h2 : byAt (l.take c) 2 = byAt l 2 := byAt_take _ _ _ (by omega)
      have h3 : byAt (l.take c) 3 = byAt l 3 := byAt_take _ _ _ (by omega)
      have hs : szK (l.take c) = szK l := by unfold szK; rw [h0]
      have hn : lnK (l.take c) = lnK l := by unfold lnK; rw [h2, h3]
      refine errV_3 (by omega) (by rw [h0]; exact e2) (by rw [hs]; exact e3) (.inr ?_)
      rw [hn, hlen]; simp at hln; omega
  unfold sgE
  rw [if_pos (by rw [h3]; decide), h3]
set_option maxRecDepth 100000 in
set_option maxHeartbeats 8000000 in
theorem cuts5_walk (p s d sp dp n : Int) (w : World) (w0 : (Lit.int .i64 p).wf = true) (w1 : (Lit.int .u32 s).wf = true) (w2 : (Lit.int .u32 d).wf = true) (w3 : (Lit.int .i64 sp).wf = true) (w4 : (Lit.int .i64 dp).wf = true) (w5 : (Lit.int .u64 n).wf = true) :
    Calls Try.prog 4 #[.agg #[.int .i64 p, .int .u32 s, .int .u32 d, .int .i64 sp, .int .i64 dp], .int .u64 n] w fun e w' => e = .returned (.bool true) ∧ Below w.heap.size w w' := by
  obtain ⟨s0, s1⟩ := bounds_u32 w1
  obtain ⟨d0, d1⟩ := bounds_u32 w2
  obtain ⟨n0, -⟩ := bounds_u64 w5
  clear w0 w1 w2 w3 w4 w5
  have hB := (Below.refl w.heap.size w).alloc (Nat.le_refl _) (.cells (flowV p s d sp dp) 31)
  have hq := Blk.new w 31 (flowV p s d sp dp)
  unfold flowV at hB hq
  have hi : (Try.prog.info? 31).map (·.size) = some 5 := by kernel_rfl
  go_enter Try.func4, Try.ntmps4
  go_wp2_with fail
  generalize w.alloc (.cells #[.int .i64 p, .int .u32 s, .int .u32 d, .int .i64 sp, .int .i64 dp] 31) = v1 at *
  refine (portsGood_any p s d sp dp v1).mono ?_
  rintro e v2 ⟨rfl, hb⟩
  replace hq := hq.below hb hq.lt
  replace hB := hB.trans (hb.mono hB.size)
  clear hb
  by_cases hg : goodF p sp dp = true
  rotate_left
  · have hg2 : goodF p sp dp = false := by simpa using hg
    rw [hg2]
    clear hg hg2
    go_wp2_with fail
    refine (lives5_any _).mono ?_
    rintro e w9 ⟨rfl, hb⟩
    go_wp2_with fail
    go_ret
    exact ⟨rfl, hB.trans (hb.mono hB.size)⟩
  rw [hg]
  obtain ⟨_, g1, g2⟩ := goodF_ports hg
  have hgd := goodF_mk (.inl rfl) g1 g2
  have b := tcp_built (s := s) (d := d) (fl := 0) (pl := []) hgd (by simp) s0 s1 d0 d1
  have hL := (tcp_len (s := s) (d := d) (fl := 0) (pl := []) hgd (by simp)).1
  simp at hL
  have hlp : 20 = (setAt (tcpB sp dp 0 []) 16 (be (sentV 6 s d (tcpB sp dp 0 [])) 2)).length := by
    rw [setAt_len _ _ _ (by rw [be_len, tcpB_len]; simp), tcpB_len]; simp
  generalize setAt (tcpB sp dp 0 []) 16 (be (sentV 6 s d (tcpB sp dp 0 [])) 2) = PL at b hlp
  generalize hLL : tcpL s d sp dp 0 [] = L at *
  clear g1 g2 hgd
  have k0 : 0 ≤ n % 20 ∧ n % 20 < 20 := by omega
  have m0 : 0 ≤ n % 8 ∧ n % 8 < 8 := by omega
  have kz : ((n % 20).toNat : Int) = n % 20 := by omega
  have mz : ((n % 8).toNat : Int) = n % 8 := by omega
  have hcut := cut_of b (by omega) (20 + (n % 20).toNat) (by omega)
  have hs20 : hpE 6 ((L.drop 20).take (n % 20).toNat) = 3 := by
    unfold hpE; rw [if_pos rfl, if_pos (by rw [List.length_take, List.length_drop]; omega)]
  have hs8 : hpE 17 ((L.drop 20).take (n % 8).toNat) = 3 := by
    unfold hpE; rw [if_neg (by decide), if_pos rfl, if_pos (by rw [List.length_take, List.length_drop]; omega)]
  replace b := Lib.hid b
  replace hL := Lib.hid hL
  replace hg := Lib.hid hg
  replace hlp := Lib.hid hlp
  replace hLL := Lib.hid hLL
  have f0 : v2.cell? ⟨w.heap.size, 0, none⟩ = some (.int .i64 p) := hq.cellv 0 rfl
  have f1 : v2.cell? ⟨w.heap.size, 1, none⟩ = some (.int .u32 s) := hq.cellv 1 rfl
  have f2 : v2.cell? ⟨w.heap.size, 2, none⟩ = some (.int .u32 d) := hq.cellv 2 rfl
  have f3 : v2.cell? ⟨w.heap.size, 3, none⟩ = some (.int .i64 sp) := hq.cellv 3 rfl
  have f4 : v2.cell? ⟨w.heap.size, 4, none⟩ = some (.int .i64 dp) := hq.cellv 4 rfl
  go_wp2_with fail
  refine (tcp_any v2 p s d sp dp 0 none 0 0 [] Byt.none_ (Nat.le_refl _) (by omega) s0 s1 d0 d1).mono ?_
  rintro e v3 ⟨vb, rfl, own3, hb⟩
  rw [hLL.out, hL.out] at own3
  obtain ⟨A3, c3, rfl, hc3, hcm3, by3, _⟩ := own3.any2
  replace hB := hB.trans (hb.mono hB.size)
  clear hb own3
  obtain ⟨A4, hsl4, hby4⟩ := slice_mid A3 40 c3 20 (20 + (n % 20).toNat) (by omega) (by omega) hc3
  obtain ⟨A5, hsl5, hby5⟩ := slice_mid A3 40 c3 20 (20 + (n % 8).toNat) (by omega) (by omega) hc3
  obtain ⟨A6, hsl6, hby6⟩ := slice_take A3 40 c3 (20 + (n % 20).toNat) (by omega) hc3
  have ck : (((20 + (n % 20).toNat : Nat)) : Int) = 20 + n % 20 := by omega
  have cm : (((20 + (n % 8).toNat : Nat)) : Int) = 20 + n % 8 := by omega
  rw [ck] at hsl4 hsl6
  rw [cm] at hsl5
  have c20 : ((20 : Nat) : Int) = 20 := rfl
  rw [c20] at hsl4 hsl5
  have y4 := hby4 v3 _ L by3
  have y5 := hby5 v3 _ L by3
  have y6 := hby6 v3 _ L by3
  clear hby4 hby5 hby6
  rw [Nat.add_sub_cancel_left] at hsl4 hsl5 y4 y5
  have q1 : IntKind.i64.wrap (n % 20) = n % 20 := IntWalk.i64_in _ (by omega)
  have q2 : IntKind.i64.wrap (20 + n % 20) = 20 + n % 20 := IntWalk.i64_in _ (by omega)
  have q3 : IntKind.i64.wrap (n % 8) = n % 8 := IntWalk.i64_in _ (by omega)
  have q4 : IntKind.i64.wrap (20 + n % 8) = 20 + n % 8 := IntWalk.i64_in _ (by omega)
  have t1 : (20 + (n % 20).toNat) ≤ 40 := by omega
  have t2 : (20 + (n % 8).toNat) ≤ 40 := by omega
  replace ck := Lib.hid ck
  replace cm := Lib.hid cm
  replace kz := Lib.hid kz
  replace mz := Lib.hid mz
  replace hcut := Lib.hid hcut
  replace hs20 := Lib.hid hs20
  replace hs8 := Lib.hid hs8
  clear c20
  go_wp2_with fail
  refine (portsParse_any v3 6 A4 _ _ _ y4 (by omega) (by omega) (by omega)).mono ?_
  rintro e v4 ⟨rfl, hb⟩
  rw [hs20.out]
  replace y5 := y5.nx hb
  replace y6 := y6.nx hb
  replace hB := hB.trans (hb.mono hB.size)
  clear hb
  go_wp2_with fail
  refine (portsParse_any v4 17 A5 _ _ _ y5 (by omega) (by omega) (by omega)).mono ?_
  rintro e v5 ⟨rfl, hb⟩
  rw [hs8.out]
  replace y6 := y6.nx hb
  replace hB := hB.trans (hb.mono hB.size)
  clear hb
  go_wp2_with fail
  refine (of_no v5 A6 _ _ _ y6 (by omega) (by omega) (by omega) (by rw [hcut.out]; decide)).mono ?_
  rintro e v6 ⟨rfl, hb⟩
  rw [hcut.out]
  replace hB := hB.trans (hb.mono hB.size)
  clear hb
  replace hB := hB.alloc hB.size (.cells #[.int .i64 0, .int .u32 0, .int .u32 0, .int .i64 0, .int .i64 0, .int .i64 0, .int .i64 0] 33)
  go_wp2_with fail
  refine (lives5_any _).mono ?_
  rintro e w9 ⟨rfl, hb⟩
  go_wp2_with fail
  go_ret
  exact ⟨rfl, hB.trans (hb.mono hB.size)⟩
end Go.Proofs.Ytnjbnnceeecekaa
