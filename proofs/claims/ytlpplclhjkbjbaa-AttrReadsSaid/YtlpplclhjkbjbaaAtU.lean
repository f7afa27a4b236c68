/- attr: AttrFaults, the walk. -/
import Derived.Test.YtlpplclhjkbjbaaAtP
import Derived.Test.YtlpplclhjkbjbaaAtT
import Derived.Test.YtlpplclhjkbjbaaAtR
import Derived.Test.YtlpplclhjkbjbaaAtH
import Derived.Test.YtlpplclhjkbjbaaLate
import Derived.Deep.Cut
namespace Go.Proofs.Ytlpplclhjkbjbaa
set_option linter.unusedVariables false
open Go.RowKit

theorem ParseAP.yes {w w' : World} {e : Ending} {o : Int} {zs : List Int} {h m : Int} {b : Bool} (hp : ParseAP w w' e (.ok ⟨o, zs, h, m, b⟩)) :
    ∃ A n c, e = .returned (.tuple #[.agg #[.int .i64 o, .slice A n c, .int .u32 h, .int .i64 m, .bool b], .agg #[.int .i64 0, .int .i64 0, .slice none 0 0]]) ∧ Nums .i64 w' w'.heap.size A n zs := by
  obtain ⟨A, n, c, rfl, hS⟩ := hp
  exact ⟨A, n, c, rfl, (hS.more fun b hb => hb.2).nums⟩
theorem ParseAP.no {w w' : World} {e : Ending} {x : Int} {d : List UInt8} (hp : ParseAP w w' e (.error (x, d))) :
    ∃ A c, e = .returned (.tuple #[.agg #[.int .i64 0, .slice none 0 0, .int .u32 0, .int .i64 0, .bool false], .agg #[.int .i64 3, .int .i64 x, .slice A d.length c]]) ∧ d.length ≤ c ∧ Byt w' w'.heap.size A d.length d ∧ (∀ a, A = some a → w.heap.size ≤ a.block) := by
  obtain ⟨v, rfl, own⟩ := hp
  obtain ⟨A, c, rfl, h1, _, h2, h3⟩ := own.any2
  exact ⟨A, c, rfl, h1, h2, h3⟩
theorem byt_far {w w' : World} {A : Option Addr} {n k : Nat} {l : List UInt8} (h : Byt w w.heap.size A n l) (ha : ∀ a, A = some a → k < a.block) (hg : w.grownBy w' (some k)) : Byt w' w'.heap.size A n l := by
  refine ⟨h.1, fun hn => ?_⟩
  obtain ⟨b, off, e, hlt, hc⟩ := h.2 hn
  refine ⟨b, off, e, Nat.lt_of_lt_of_le hlt hg.size, fun j hj => ?_⟩
  have hb : k < b := ha _ e
  rw [← hc j hj]
  unfold World.cell?
  rw [hg.block b hlt (by intro e2; injection e2 with e2; omega)]
theorem own_four (w : World) (a b c d : Int) (a0 : 0 ≤ a) (a1 : a ≤ 255) (b0 : 0 ≤ b) (b1 : b ≤ 255) (c0 : 0 ≤ c) (c1 : c ≤ 255) (d0 : 0 ≤ d) (d1 : d ≤ 255) : OwnB (w.alloc (.cells #[.int .u8 a, .int .u8 b, .int .u8 c, .int .u8 d] 5)) w.heap.size (.slice (some ⟨w.heap.size, 0, none⟩) 4 4) 4 [byOf a, byOf b, byOf c, byOf d] := by
  have h := OwnB.lit (base := w.heap.size) w [byOf a, byOf b, byOf c, byOf d] (Nat.le_refl _) (by unfold maxLen; simp)
  have e : byCells [byOf a, byOf b, byOf c, byOf d] = #[.int .u8 a, .int .u8 b, .int .u8 c, .int .u8 d] := by
    simp only [byCells, List.map_cons, List.map_nil, byOf_val]
    rw [Int.emod_eq_of_lt a0 (by omega), Int.emod_eq_of_lt b0 (by omega), Int.emod_eq_of_lt c0 (by omega), Int.emod_eq_of_lt d0 (by omega)]
  rw [e] at h
  exact h
theorem sameA_refl (o : Int) (zs : List Int) (h m : Int) (b : Bool) : sameA o zs h m b o zs h m b = true := by
  unfold sameA intsEq; simp
set_option maxRecDepth 100000 in
set_option maxHeartbeats 16000000 in
theorem faults7_walk (o : Int) (A : Option Addr) (n c : Nat) (zs : List Int) (h m : Int) (b : Bool) (u k : Int) (w : World) (_ : (Lit.int .i64 o).wf = true) (_ : n ≤ c) (_ : c ≤ maxLen) (hN : Nums .i64 w w.heap.size A n zs) (hh : (Lit.int .u32 h).wf = true) (_ : (Lit.int .i64 m).wf = true) (hu : (Lit.int .u8 u).wf = true) (hk : (Lit.int .u8 k).wf = true) :
    Calls Try.prog 6 #[.agg #[.int .i64 o, .slice A n c, .int .u32 h, .int .i64 m, .bool b], .int .u8 u, .int .u8 k] w fun e w' => e = .returned (.bool true) ∧ Below w.heap.size w w' := by
  have h0 : 0 ≤ h := (bounds_u32 hh).1
  have h1 : h ≤ 4294967295 := by have := (bounds_u32 hh).2; omega
  obtain ⟨u0, u1⟩ := bounds_u8 hu
  obtain ⟨k0, k1⟩ := bounds_u8 hk
  have hnl := hN.1
  have hB := (Below.refl w.heap.size w).alloc (Nat.le_refl _) (.cells #[.int .i64 o, .slice A n c, .int .u32 h, .int .i64 m, .bool b] 39)
  have hq := Blk.new w 39 #[.int .i64 o, .slice A n c, .int .u32 h, .int .i64 m, .bool b]
  replace hN := hN.nx hB
  clear hh hu hk
  go_enter Try.func6, Try.ntmps6
  replace hnl := Lib.hid hnl
  go_wp2_with fail
  refine (attrGood_any _ o A n c zs h m b hN h0 h1).mono ?_
  rintro e w1 ⟨rfl, hb⟩
  replace hq := hq.below hb hq.lt
  replace hN := hN.nx hb
  replace hB := hB.trans (hb.mono hB.size)
  clear hb
  cases hg : goodA o zs h m b
  · go_wp2_with fail
    refine (lives7_any _).mono ?_
    rintro e wl ⟨rfl, hbl⟩
    go_wp2_with fail
    go_ret
    exact ⟨rfl, hB.trans (hbl.mono hB.size)⟩
  have hgp := good_parts hg
  have hn16 : n ≤ 16 := by have := hgp.2.2.1; have := hnl.out; omega
  have hlen := attrsB_len hg
  have d300 : (n : Int) ≤ 300 := by omega
  have z0 : 0 ≤ u % 200 := Int.emod_nonneg u (by omega)
  have z1 : u % 200 ≤ 199 := by have := Int.emod_lt_of_pos u (show (0 : Int) < 200 by omega); omega
  have y0 : 0 ≤ k % 200 := Int.emod_nonneg k (by omega)
  have y1 : k % 200 ≤ 199 := by have := Int.emod_lt_of_pos k (show (0 : Int) < 200 by omega); omega
  clear hgp
  have lt_hq := hq.lt
  have c0_hq : w1.cell? ⟨w.heap.size, 0, none⟩ = some (.int .i64 o) := hq.cellv 0 rfl
  have c1_hq : w1.cell? ⟨w.heap.size, 1, none⟩ = some (.slice A n c) := hq.cellv 1 rfl
  have c2_hq : w1.cell? ⟨w.heap.size, 2, none⟩ = some (.int .u32 h) := hq.cellv 2 rfl
  have c3_hq : w1.cell? ⟨w.heap.size, 3, none⟩ = some (.int .i64 m) := hq.cellv 3 rfl
  have c4_hq : w1.cell? ⟨w.heap.size, 4, none⟩ = some (.bool b) := hq.cellv 4 rfl
  go_wp2_with fail
  refine (attrBytes_any w1 o A n c zs h m b hN h0 h1).mono ?_
  rintro e w2 ⟨v, rfl, own, hb⟩
  clear lt_hq c0_hq c1_hq c2_hq c3_hq c4_hq
  replace hq := hq.below hb hq.lt
  replace hN := hN.nx hb
  replace hB := hB.trans (hb.mono hB.size)
  clear hb
  have E1 := parseA_x hg (3 + u % 200) (by omega) (by omega)
  have E2 := parseA_y hg
  have E3 := parseA_h hg h0 h1 (5 + k % 200) u (by omega) (by omega)
  have E4 := parseA_i hg h0 h1 (5 + k % 200) u (by omega) (by omega)
  replace E1 := Lib.hid E1
  replace E2 := Lib.hid E2
  replace E3 := Lib.hid E3
  replace E4 := Lib.hid E4
  generalize attrsB o zs h m b = L at *
  obtain ⟨l14, l56⟩ := hlen
  obtain ⟨A1, c1, rfl, hnc1, hcm1, by7, _⟩ := own.any2
  have d14 : (14 : Int) ≤ L.length := by omega
  replace hg := Lib.hid hg
  clear own
  go_upto_region 6 with (fail)
  have hlit8 : OwnB (w2.alloc (.cells #[] 5)) w2.heap.size (.slice (some ⟨w2.heap.size, 0, none⟩) 0 0) 0 [] := by
    have := OwnB.lit (base := w2.heap.size) w2 [] (Nat.le_refl _) (by simp)
    rw [show byCells [] = #[] from rfl] at this
    exact this
  have hby0 := by7.alloc (Nat.le_refl _) (.cells #[] 5)
  go_upto_region 7 with (at_builtin; refine wpList_app _ rfl (.tmp 34) (.tmp 35) rfl w2.heap.size _ 0 [] rfl hlit8 _ _ _ _ _ rfl hby0 (by omega) (by simp) ?_; intro y3 w3 own8 hg3 hd3; clear hd3; have hb3 := ((Below.refl w2.heap.size w2).alloc (Nat.le_refl _) (.cells #[] 5)).trans (hlit8.below_app hg3 (by simp)); clear hg3; rw [Nat.zero_add, List.nil_append] at own8; obtain ⟨e8, q8, rfl, he8, hes8, hq8, hqm8⟩ := own8.form (by omega))
  have cK := own8.cell 3 (by omega)
  have cF := own8.free 3
  go_upto_region 8 with (fail)
  have hst := own8.store 3 (3 + u % 200) (by omega) (by omega)
  have hgr := grown_setCell (grown_refl w3 (some e8)) (p := ⟨e8, 3, none⟩) (.inl rfl) (.int .u8 (3 + u % 200))
  have hb4 := below_own hb3 hgr hb3.size he8
  generalize w3.setCell ⟨e8, 3, none⟩ (.int .u8 (3 + u % 200)) = w4 at *
  clear hgr own8 cK cF hlit8 hby0 hb3 hes8 he8
  have own8 := hst
  clear hst
  replace hq := hq.below hb4 hq.lt
  replace hN := hN.nx hb4
  replace by7 := by7.nx hb4
  replace hB := hB.trans (hb4.mono hB.size)
  clear hb4
  skip
  generalize hX : L.set 3 (byOf (3 + u % 200)) = XL at *
  have lX : XL.length = L.length := by rw [← hX]; simp
  replace hX := Lib.hid hX
  replace lX := Lib.hid lX
  go_wp2_with fail
  refine (attrParse_any w4 (some ⟨e8, 0, none⟩) L.length q8 XL own8.byt (by omega)).mono ?_
  rintro e v10 ⟨hb, hP⟩
  rw [E1.out] at hP
  obtain ⟨X10, d10, rfl, hd10, by10, hz10⟩ := hP.no
  have ln10 : (XL.take 4).length = 4 := by rw [List.length_take, lX.out]; omega
  rw [ln10] at hd10 by10 ⊢
  clear hP
  replace hq := hq.below hb hq.lt
  replace hN := hN.nx hb
  replace by7 := by7.nx hb
  replace own8 := own8.below hb
  replace hB := hB.trans (hb.mono hB.size)
  clear hb
  have hx10 := (Blk.new v10 39 #[.int .i64 0, .slice none 0 0, .int .u32 0, .int .i64 0, .bool false]).alloc (.cells #[.int .i64 3, .int .i64 6, .slice X10 4 d10] 31)
  have hf10 : Blk ((v10.alloc (.cells #[.int .i64 0, .slice none 0 0, .int .u32 0, .int .i64 0, .bool false] 39)).alloc (.cells #[.int .i64 3, .int .i64 6, .slice X10 4 d10] 31)) (v10.heap.size + 1) 31 #[.int .i64 3, .int .i64 6, .slice X10 4 d10] := by
    have := Blk.new (v10.alloc (.cells #[.int .i64 0, .slice none 0 0, .int .u32 0, .int .i64 0, .bool false] 39)) 31 #[.int .i64 3, .int .i64 6, .slice X10 4 d10]
    simpa using this
  have hba := ((Below.refl v10.heap.size v10).alloc (Nat.le_refl _) (.cells #[.int .i64 0, .slice none 0 0, .int .u32 0, .int .i64 0, .bool false] 39)).alloc (by simp) (.cells #[.int .i64 3, .int .i64 6, .slice X10 4 d10] 31)
  replace hq := hq.below hba hq.lt
  replace hN := hN.nx hba
  replace by7 := by7.nx hba
  replace by10 := by10.nx hba
  replace own8 := own8.below hba
  replace hB := hB.trans (hba.mono hB.size)
  clear hba
  go_upto_region 9 with (fail)
  generalize (v10.alloc (.cells #[.int .i64 0, .slice none 0 0, .int .u32 0, .int .i64 0, .bool false] 39)).alloc (.cells #[.int .i64 3, .int .i64 6, .slice X10 4 d10] 31) = u10 at *
  generalize v10.heap.size = g10 at *
  have hlit11 : OwnB (u10.alloc (.cells #[] 5)) u10.heap.size (.slice (some ⟨u10.heap.size, 0, none⟩) 0 0) 0 [] := by
    have := OwnB.lit (base := u10.heap.size) u10 [] (Nat.le_refl _) (by simp)
    rw [show byCells [] = #[] from rfl] at this
    exact this
  have hby0 := by7.alloc (Nat.le_refl _) (.cells #[] 5)
  go_upto_region 10 with (at_builtin; refine wpList_app _ rfl (.tmp 47) (.tmp 48) rfl u10.heap.size _ 0 [] rfl hlit11 _ _ _ _ _ rfl hby0 (by omega) (by simp) ?_; intro y3 w5 own11 hg3 hd3; clear hd3; have hb3 := ((Below.refl u10.heap.size u10).alloc (Nat.le_refl _) (.cells #[] 5)).trans (hlit11.below_app hg3 (by simp)); clear hg3; rw [Nat.zero_add, List.nil_append] at own11; obtain ⟨e11, q11, rfl, he11, hes11, hq11, hqm11⟩ := own11.form (by omega))
  have cK := own11.cell 0 (by omega)
  have cF := own11.free 0
  go_upto_region 11 with (fail)
  have hst := own11.store 0 (128) (by omega) (by omega)
  have hgr := grown_setCell (grown_refl w5 (some e11)) (p := ⟨e11, 0, none⟩) (.inl rfl) (.int .u8 (128))
  have hb4 := below_own hb3 hgr hb3.size he11
  generalize w5.setCell ⟨e11, 0, none⟩ (.int .u8 (128)) = w6 at *
  clear hgr own11 cK cF hlit11 hby0 hb3 hes11 he11
  have own11 := hst
  clear hst
  replace hq := hq.below hb4 hq.lt
  replace hx10 := hx10.below hb4 hx10.lt
  replace hf10 := hf10.below hb4 hf10.lt
  replace hN := hN.nx hb4
  replace by7 := by7.nx hb4
  replace by10 := by10.nx hb4
  replace own8 := own8.below hb4
  replace hB := hB.trans (hb4.mono hB.size)
  clear hb4
  generalize hY : L.set 0 (byOf 128) = YL at *
  have lY : YL.length = L.length := by rw [← hY]; simp
  replace hY := Lib.hid hY
  replace lY := Lib.hid lY
  go_wp2_with fail
  refine (attrParse_any w6 (some ⟨e11, 0, none⟩) L.length q11 YL own11.byt (by omega)).mono ?_
  rintro e v13 ⟨hb, hP⟩
  rw [E2.out] at hP
  obtain ⟨X13, d13, rfl, hd13, by13, hz13⟩ := hP.no
  have ln13 : (YL.take 4).length = 4 := by rw [List.length_take, lY.out]; omega
  rw [ln13] at hd13 by13 ⊢
  clear hP
  replace hq := hq.below hb hq.lt
  replace hx10 := hx10.below hb hx10.lt
  replace hf10 := hf10.below hb hf10.lt
  replace hN := hN.nx hb
  replace by7 := by7.nx hb
  replace by10 := by10.nx hb
  replace own8 := own8.below hb
  replace own11 := own11.below hb
  replace hB := hB.trans (hb.mono hB.size)
  clear hb
  have hx13 := (Blk.new v13 39 #[.int .i64 0, .slice none 0 0, .int .u32 0, .int .i64 0, .bool false]).alloc (.cells #[.int .i64 3, .int .i64 4, .slice X13 4 d13] 31)
  have hf13 : Blk ((v13.alloc (.cells #[.int .i64 0, .slice none 0 0, .int .u32 0, .int .i64 0, .bool false] 39)).alloc (.cells #[.int .i64 3, .int .i64 4, .slice X13 4 d13] 31)) (v13.heap.size + 1) 31 #[.int .i64 3, .int .i64 4, .slice X13 4 d13] := by
    have := Blk.new (v13.alloc (.cells #[.int .i64 0, .slice none 0 0, .int .u32 0, .int .i64 0, .bool false] 39)) 31 #[.int .i64 3, .int .i64 4, .slice X13 4 d13]
    simpa using this
  have hba := ((Below.refl v13.heap.size v13).alloc (Nat.le_refl _) (.cells #[.int .i64 0, .slice none 0 0, .int .u32 0, .int .i64 0, .bool false] 39)).alloc (by simp) (.cells #[.int .i64 3, .int .i64 4, .slice X13 4 d13] 31)
  replace hq := hq.below hba hq.lt
  replace hx10 := hx10.below hba hx10.lt
  replace hf10 := hf10.below hba hf10.lt
  replace hN := hN.nx hba
  replace by7 := by7.nx hba
  replace by10 := by10.nx hba
  replace by13 := by13.nx hba
  replace own8 := own8.below hba
  replace own11 := own11.below hba
  replace hB := hB.trans (hba.mono hB.size)
  clear hba
  go_upto_region 12 with (fail)
  generalize (v13.alloc (.cells #[.int .i64 0, .slice none 0 0, .int .u32 0, .int .i64 0, .bool false] 39)).alloc (.cells #[.int .i64 3, .int .i64 4, .slice X13 4 d13] 31) = u13 at *
  generalize v13.heap.size = g13 at *
  have s_hq := hq
  have s_hx10 := hx10
  have s_hf10 := hf10
  have s_hx13 := hx13
  have s_hf13 := hf13
  have s_hN := hN
  have s_by7 := by7
  have s_by10 := by10
  have s_by13 := by13
  have s_own8 := own8
  have s_own11 := own11
  have hB13 := Below.refl u13.heap.size u13
  have hwu : w.heap.size ≤ u13.heap.size := hB.size
  skip
  have own14 := own_four u13 64 (5 + k % 200) 1 u (by omega) (by omega) (by omega) (by omega) (by omega) (by omega) u0 u1
  have hba := (Below.refl u13.heap.size u13).alloc (Nat.le_refl _) (.cells #[.int .u8 64, .int .u8 (5 + k % 200), .int .u8 1, .int .u8 u] 5)
  replace hq := hq.below hba hq.lt
  replace hx10 := hx10.below hba hx10.lt
  replace hf10 := hf10.below hba hf10.lt
  replace hx13 := hx13.below hba hx13.lt
  replace hf13 := hf13.below hba hf13.lt
  replace hN := hN.nx hba
  replace by7 := by7.nx hba
  replace by10 := by10.nx hba
  replace by13 := by13.nx hba
  replace own8 := own8.below hba
  replace own11 := own11.below hba
  replace hB := hB.trans (hba.mono hB.size)
  replace hB13 := hB13.trans (hba.mono hB13.size)
  clear hba
  go_upto_region 13 with (fail)
  generalize u13.alloc (.cells #[.int .u8 64, .int .u8 (5 + k % 200), .int .u8 1, .int .u8 u] 5) = w7 at *
  obtain ⟨m14, hm14⟩ : ∃ m14, m14 = u13.heap.size := ⟨_, rfl⟩
  rw [← hm14] at own14 ⊢
  have hmle : u13.heap.size ≤ m14 := Nat.le_of_eq hm14.symm
  have hwm : w.heap.size ≤ m14 := Nat.le_trans hwu hmle
  replace hm14 := Lib.hid hm14
  have lt14 : m14 < w7.heap.size := (World.ownsRow.lt own14 m14 rfl).2
  have hlit16 : OwnB (w7.alloc (.cells #[] 5)) w7.heap.size (.slice (some ⟨w7.heap.size, 0, none⟩) 0 0) 0 [] := by
    have := OwnB.lit (base := w7.heap.size) w7 [] (Nat.le_refl _) (by simp)
    rw [show byCells [] = #[] from rfl] at this
    exact this
  have hby0 := by7.alloc (Nat.le_refl _) (.cells #[] 5)
  have bm0 := own14.byt
  go_wp2_with first
    | (at_builtin; refine wpList_app _ rfl (.tmp 63) (.tmp 64) rfl w7.heap.size _ 0 [] rfl hlit16 _ _ _ _ _ rfl hby0 (by omega) (by simp) ?_; intro y3 w3 own16 hg3 hd3; clear hd3; have hb3 := ((Below.refl w7.heap.size w7).alloc (Nat.le_refl _) (.cells #[] 5)).trans (hlit16.below_app hg3 (by simp)); clear hg3; rw [Nat.zero_add, List.nil_append] at own16; have bm3 := bm0.nx hb3)
    | (at_builtin; refine wpList_app _ rfl (.tmp 65) (.tmp 66) rfl w7.heap.size _ _ _ rfl own16 _ _ 4 4 _ rfl bm3 (by omega) (by have := hb3.size; omega) ?_; intro y4 w8 own4 hg4 hd4; clear hd4; have hb4 := hb3.trans (own16.below_app hg4 (by have := hb3.size; omega)); clear hg4; obtain ⟨A16, c16, rfl, hnc16, hcm16, hby16, _⟩ := own4.any2)
  clear hby0 hlit16 own16 bm0 bm3 hb3 own4
  replace hq := hq.below hb4 hq.lt
  replace hx10 := hx10.below hb4 hx10.lt
  replace hf10 := hf10.below hb4 hf10.lt
  replace hx13 := hx13.below hb4 hx13.lt
  replace hf13 := hf13.below hb4 hf13.lt
  replace hN := hN.nx hb4
  replace by7 := by7.nx hb4
  replace by10 := by10.nx hb4
  replace by13 := by13.nx hb4
  replace own8 := own8.below hb4
  replace own11 := own11.below hb4
  replace own14 := own14.below hb4
  replace hB := hB.trans (hb4.mono hB.size)
  replace hB13 := hB13.trans (hb4.mono hB13.size)
  clear hb4
  have hm8 : m14 < w8.heap.size := (World.ownsRow.lt own14 m14 rfl).2
  refine (attrParse_any w8 A16 _ c16 (L ++ [byOf 64, byOf (5 + k % 200), byOf 1, byOf u]) hby16 (by omega)).mono ?_
  rintro e v16 ⟨hb, hP⟩
  rw [E3.out] at hP
  obtain ⟨X16, d16, rfl, hd16, by16, hz16⟩ := hP.no
  have ln16 : [byOf 64, byOf (5 + k % 200), byOf 1, byOf u].length = 4 := by rfl
  rw [ln16] at hd16 by16 ⊢
  clear hP
  replace hq := hq.below hb hq.lt
  replace hx10 := hx10.below hb hx10.lt
  replace hf10 := hf10.below hb hf10.lt
  replace hx13 := hx13.below hb hx13.lt
  replace hf13 := hf13.below hb hf13.lt
  replace hN := hN.nx hb
  replace by7 := by7.nx hb
  replace by10 := by10.nx hb
  replace by13 := by13.nx hb
  replace own8 := own8.below hb
  replace own11 := own11.below hb
  replace own14 := own14.below hb
  replace hB := hB.trans (hb.mono hB.size)
  replace hB13 := hB13.trans (hb.mono hB13.size)
  clear hb
  have hm16 : m14 < v16.heap.size := (World.ownsRow.lt own14 m14 rfl).2
  have hx16 := (Blk.new v16 39 #[.int .i64 0, .slice none 0 0, .int .u32 0, .int .i64 0, .bool false]).alloc (.cells #[.int .i64 3, .int .i64 2, .slice X16 4 d16] 31)
  have hf16 : Blk ((v16.alloc (.cells #[.int .i64 0, .slice none 0 0, .int .u32 0, .int .i64 0, .bool false] 39)).alloc (.cells #[.int .i64 3, .int .i64 2, .slice X16 4 d16] 31)) (v16.heap.size + 1) 31 #[.int .i64 3, .int .i64 2, .slice X16 4 d16] := by
    have := Blk.new (v16.alloc (.cells #[.int .i64 0, .slice none 0 0, .int .u32 0, .int .i64 0, .bool false] 39)) 31 #[.int .i64 3, .int .i64 2, .slice X16 4 d16]
    simpa using this
  have hba := ((Below.refl v16.heap.size v16).alloc (Nat.le_refl _) (.cells #[.int .i64 0, .slice none 0 0, .int .u32 0, .int .i64 0, .bool false] 39)).alloc (by simp) (.cells #[.int .i64 3, .int .i64 2, .slice X16 4 d16] 31)
  replace hq := hq.below hba hq.lt
  replace hx10 := hx10.below hba hx10.lt
  replace hf10 := hf10.below hba hf10.lt
  replace hx13 := hx13.below hba hx13.lt
  replace hf13 := hf13.below hba hf13.lt
  replace hN := hN.nx hba
  replace by7 := by7.nx hba
  replace by10 := by10.nx hba
  replace by13 := by13.nx hba
  replace by16 := by16.nx hba
  replace own8 := own8.below hba
  replace own11 := own11.below hba
  replace own14 := own14.below hba
  replace hB := hB.trans (hba.mono hB.size)
  replace hB13 := hB13.trans (hba.mono hB13.size)
  clear hba
  go_upto_region 14 with (fail)
  generalize (v16.alloc (.cells #[.int .i64 0, .slice none 0 0, .int .u32 0, .int .i64 0, .bool false] 39)).alloc (.cells #[.int .i64 3, .int .i64 2, .slice X16 4 d16] 31) = u16 at *
  generalize v16.heap.size = g16 at *
  skip
  clear hby16
  have cK := own14.cell 0 (by omega)
  have cF := own14.free 0
  have lt14' : m14 < u16.heap.size := (World.ownsRow.lt own14 m14 rfl).2
  go_upto_region 15 with (fail)
  have hst := own14.store 0 192 (by omega) (by omega)
  have hgr := grown_setCell (grown_refl u16 (some m14)) (p := ⟨m14, 0, none⟩) (.inl rfl) (.int .u8 192)
  generalize u16.setCell ⟨m14, 0, none⟩ (.int .u8 192) = w9 at *
  clear own14 cK cF
  have own14 := hst
  clear hst
  replace own14 : OwnB w9 m14 (.slice (some ⟨m14, 0, none⟩) 4 4) 4 [byOf 192, byOf (5 + k % 200), byOf 1, byOf u] := own14
  replace by16 := byt_far by16 (fun a e => by have := hz16 a e; omega) hgr
  replace hx16 := hx16.grown hgr (by intro e; injection e with e; omega)
  replace hf16 := hf16.grown hgr (by intro e; injection e with e; omega)
  replace hB13 := below_own hB13 hgr hB13.size hmle
  replace hB := below_own hB hgr hB.size (by omega)
  replace hq := s_hq.below hB13 s_hq.lt
  replace hx10 := s_hx10.below hB13 s_hx10.lt
  replace hf10 := s_hf10.below hB13 s_hf10.lt
  replace hx13 := s_hx13.below hB13 s_hx13.lt
  replace hf13 := s_hf13.below hB13 s_hf13.lt
  replace hN := s_hN.nx hB13
  replace by7 := s_by7.nx hB13
  replace by10 := s_by10.nx hB13
  replace by13 := s_by13.nx hB13
  replace own8 := s_own8.below hB13
  replace own11 := s_own11.below hB13
  clear hgr hmle s_hq s_hx10 s_hf10 s_hx13 s_hf13 s_hN s_by7 s_by10 s_by13 s_own8 s_own11
  clear hB13
  have hlit18 : OwnB (w9.alloc (.cells #[] 5)) w9.heap.size (.slice (some ⟨w9.heap.size, 0, none⟩) 0 0) 0 [] := by
    have := OwnB.lit (base := w9.heap.size) w9 [] (Nat.le_refl _) (by simp)
    rw [show byCells [] = #[] from rfl] at this
    exact this
  have hby0 := by7.alloc (Nat.le_refl _) (.cells #[] 5)
  have bm0 := own14.byt
  go_wp2_with first
    | (at_builtin; refine wpList_app _ rfl (.tmp 74) (.tmp 75) rfl w9.heap.size _ 0 [] rfl hlit18 _ _ _ _ _ rfl hby0 (by omega) (by simp) ?_; intro y3 w3 own18 hg3 hd3; clear hd3; have hb3 := ((Below.refl w9.heap.size w9).alloc (Nat.le_refl _) (.cells #[] 5)).trans (hlit18.below_app hg3 (by simp)); clear hg3; rw [Nat.zero_add, List.nil_append] at own18; have bm3 := bm0.nx hb3)
    | (at_builtin; refine wpList_app _ rfl (.tmp 76) (.tmp 77) rfl w9.heap.size _ _ _ rfl own18 _ _ 4 4 _ rfl bm3 (by omega) (by have := hb3.size; omega) ?_; intro y4 w10 own4 hg4 hd4; clear hd4; have hb4 := hb3.trans (own18.below_app hg4 (by have := hb3.size; omega)); clear hg4; obtain ⟨A18, c18, rfl, hnc18, hcm18, hby18, _⟩ := own4.any2)
  clear hby0 hlit18 own18 bm0 bm3 hb3 own4
  replace hq := hq.below hb4 hq.lt
  replace hx10 := hx10.below hb4 hx10.lt
  replace hf10 := hf10.below hb4 hf10.lt
  replace hx13 := hx13.below hb4 hx13.lt
  replace hf13 := hf13.below hb4 hf13.lt
  replace hx16 := hx16.below hb4 hx16.lt
  replace hf16 := hf16.below hb4 hf16.lt
  replace hN := hN.nx hb4
  replace by7 := by7.nx hb4
  replace by10 := by10.nx hb4
  replace by13 := by13.nx hb4
  replace by16 := by16.nx hb4
  replace own8 := own8.below hb4
  replace own11 := own11.below hb4
  replace own14 := own14.below hb4
  replace hB := hB.trans (hb4.mono hB.size)
  clear hb4
  clear hx10 hx13 hx16
  refine (attrParse_any w10 A18 _ c18 (L ++ [byOf 192, byOf (5 + k % 200), byOf 1, byOf u]) hby18 (by omega)).mono ?_
  rintro e v18 ⟨hb, hP⟩
  rw [E4.out] at hP
  obtain ⟨X18, m18, d18, rfl, hN18⟩ := hP.yes
  clear hP
  replace hq := hq.below hb hq.lt
  replace hf10 := hf10.below hb hf10.lt
  replace hf13 := hf13.below hb hf13.lt
  replace hf16 := hf16.below hb hf16.lt
  replace hN := hN.nx hb
  replace by7 := by7.nx hb
  replace by10 := by10.nx hb
  replace by13 := by13.nx hb
  replace by16 := by16.nx hb
  replace own8 := own8.below hb
  replace own11 := own11.below hb
  replace own14 := own14.below hb
  replace hB := hB.trans (hb.mono hB.size)
  clear hb
  have hx18 := (Blk.new v18 39 #[.int .i64 o, .slice X18 m18 d18, .int .u32 h, .int .i64 m, .bool b]).alloc (.cells #[.int .i64 0, .int .i64 0, .slice none 0 0] 31)
  have hf18 : Blk ((v18.alloc (.cells #[.int .i64 o, .slice X18 m18 d18, .int .u32 h, .int .i64 m, .bool b] 39)).alloc (.cells #[.int .i64 0, .int .i64 0, .slice none 0 0] 31)) (v18.heap.size + 1) 31 #[.int .i64 0, .int .i64 0, .slice none 0 0] := by
    have := Blk.new (v18.alloc (.cells #[.int .i64 o, .slice X18 m18 d18, .int .u32 h, .int .i64 m, .bool b] 39)) 31 #[.int .i64 0, .int .i64 0, .slice none 0 0]
    simpa using this
  have hba := ((Below.refl v18.heap.size v18).alloc (Nat.le_refl _) (.cells #[.int .i64 o, .slice X18 m18 d18, .int .u32 h, .int .i64 m, .bool b] 39)).alloc (by simp) (.cells #[.int .i64 0, .int .i64 0, .slice none 0 0] 31)
  replace hq := hq.below hba hq.lt
  replace hf10 := hf10.below hba hf10.lt
  replace hf13 := hf13.below hba hf13.lt
  replace hf16 := hf16.below hba hf16.lt
  replace hN := hN.nx hba
  replace hN18 := hN18.nx hba
  replace by7 := by7.nx hba
  replace by10 := by10.nx hba
  replace by13 := by13.nx hba
  replace by16 := by16.nx hba
  replace own8 := own8.below hba
  replace own11 := own11.below hba
  replace own14 := own14.below hba
  replace hB := hB.trans (hba.mono hB.size)
  clear hba
  go_upto_region 16 with (fail)
  generalize (v18.alloc (.cells #[.int .i64 o, .slice X18 m18 d18, .int .u32 h, .int .i64 m, .bool b] 39)).alloc (.cells #[.int .i64 0, .int .i64 0, .slice none 0 0] 31) = u18 at *
  generalize v18.heap.size = g18 at *
  have hn4 : 0 < 4 := by omega
  obtain ⟨b16, o16, rfl, hb16, hc16⟩ := by16.2 hn4
  have k16 := hc16 1 (by omega)
  have hb1v : byAt [byOf 64, byOf (5 + k % 200), byOf 1, byOf u] 1 = 5 + k % 200 := by
    have : byAt [byOf 64, byOf (5 + k % 200), byOf 1, byOf u] 1 = ((byOf (5 + k % 200)).toNat : Int) := rfl
    rw [this, byOf_val]; omega
  rw [hb1v] at k16
  clear hc16 hb1v by16
  have bx8 := own8.byt.take (m := 4) (by omega)
  have bx11 := own11.byt.take (m := 4) (by omega)
  have dq8 : (4 : Int) ≤ q8 := by omega
  have hkw : IntKind.u8.wrap (5 + k.tmod 200) = 5 + k % 200 := by rw [Int.tmod_eq_emod_of_nonneg k0, IntKind.wrap_u8]; omega
  have dq11 : (4 : Int) ≤ q11 := by omega
  clear own14 by7
  have lt_hf10 := hf10.lt
  have c0_hf10 : u18.cell? ⟨(g10 + 1), 0, none⟩ = some (.int .i64 3) := hf10.cellv 0 rfl
  have c1_hf10 : u18.cell? ⟨(g10 + 1), 1, none⟩ = some (.int .i64 6) := hf10.cellv 1 rfl
  have c2_hf10 : u18.cell? ⟨(g10 + 1), 2, none⟩ = some (.slice X10 4 d10) := hf10.cellv 2 rfl
  have lt_hf13 := hf13.lt
  have c0_hf13 : u18.cell? ⟨(g13 + 1), 0, none⟩ = some (.int .i64 3) := hf13.cellv 0 rfl
  have c1_hf13 : u18.cell? ⟨(g13 + 1), 1, none⟩ = some (.int .i64 4) := hf13.cellv 1 rfl
  have c2_hf13 : u18.cell? ⟨(g13 + 1), 2, none⟩ = some (.slice X13 4 d13) := hf13.cellv 2 rfl
  have lt_hf16 := hf16.lt
  have c0_hf16 : u18.cell? ⟨(g16 + 1), 0, none⟩ = some (.int .i64 3) := hf16.cellv 0 rfl
  have c1_hf16 : u18.cell? ⟨(g16 + 1), 1, none⟩ = some (.int .i64 2) := hf16.cellv 1 rfl
  have c2_hf16 : u18.cell? ⟨(g16 + 1), 2, none⟩ = some (.slice (some ⟨b16, o16, none⟩) 4 d16) := hf16.cellv 2 rfl
  have lt_hf18 := hf18.lt
  have c0_hf18 : u18.cell? ⟨(g18 + 1), 0, none⟩ = some (.int .i64 0) := hf18.cellv 0 rfl
  have c1_hf18 : u18.cell? ⟨(g18 + 1), 1, none⟩ = some (.int .i64 0) := hf18.cellv 1 rfl
  have c2_hf18 : u18.cell? ⟨(g18 + 1), 2, none⟩ = some (.slice none 0 0) := hf18.cellv 2 rfl
  skip
  -- region 15+13: 0 1 2 3 4 5 6 7 8 9 10 11 12 13 14 15 16 17 18 19 20 21 22 23 24 25 26 27 28 29 30 31 32 33 34 35 36 37 38 39 40 41 42 43 44 45 46 47 48 49 50 51 52 53 54 55 56 57 58 59 60C 61 62 63C 64 65
  try refine wp_region_noPanic ?_
  refine wp_region_lat (by kernel_rfl) ?_
  (refine lat_now 0 (by rfl) ?_ (by kernel_rfl) (fun _ _ _ h => h) ?_ ?_; rotate_left; (focus (intro wq hSw; have hrd : ∀ b o, b < u18.heap.size → wq.cell? ⟨b, o, none⟩ = u18.cell? ⟨b, o, none⟩ := (fun b o h => Below.cell hSw (p := ⟨b, o, none⟩) h); go_simp; try with_reducible rfl; done)); try simp only [Act.put, List.setIfInBounds_toArray, List.set_cons_zero, List.set_cons_succ])
  (refine lat_now 1 (by rfl) ?_ (by kernel_rfl) (fun _ _ _ h => h) ?_ ?_; rotate_left; (focus (intro wq hSw; have hrd : ∀ b o, b < u18.heap.size → wq.cell? ⟨b, o, none⟩ = u18.cell? ⟨b, o, none⟩ := (fun b o h => Below.cell hSw (p := ⟨b, o, none⟩) h); go_simp; try with_reducible rfl; done)); try simp only [Act.put, List.setIfInBounds_toArray, List.set_cons_zero, List.set_cons_succ])
  (refine lat_now 2 (by rfl) ?_ (by kernel_rfl) (fun _ _ _ h => h) ?_ ?_; rotate_left; (focus (intro wq hSw; have hrd : ∀ b o, b < u18.heap.size → wq.cell? ⟨b, o, none⟩ = u18.cell? ⟨b, o, none⟩ := (fun b o h => Below.cell hSw (p := ⟨b, o, none⟩) h); go_simp; try with_reducible rfl; done)); try simp only [Act.put, List.setIfInBounds_toArray, List.set_cons_zero, List.set_cons_succ])
  (refine lat_now 3 (by rfl) ?_ (by kernel_rfl) (fun _ _ _ h => h) ?_ ?_; rotate_left; (focus (intro wq hSw; have hrd : ∀ b o, b < u18.heap.size → wq.cell? ⟨b, o, none⟩ = u18.cell? ⟨b, o, none⟩ := (fun b o h => Below.cell hSw (p := ⟨b, o, none⟩) h); go_simp; try with_reducible rfl; done)); try simp only [Act.put, List.setIfInBounds_toArray, List.set_cons_zero, List.set_cons_succ])
  (refine lat_now 4 (by rfl) ?_ (by kernel_rfl) (fun _ _ _ h => h) ?_ ?_; rotate_left; (focus (intro wq hSw; have hrd : ∀ b o, b < u18.heap.size → wq.cell? ⟨b, o, none⟩ = u18.cell? ⟨b, o, none⟩ := (fun b o h => Below.cell hSw (p := ⟨b, o, none⟩) h); go_simp; try with_reducible rfl; done)); try simp only [Act.put, List.setIfInBounds_toArray, List.set_cons_zero, List.set_cons_succ])
  (refine lat_now 5 (by rfl) ?_ (by kernel_rfl) (fun _ _ _ h => h) ?_ ?_; rotate_left; (focus (intro wq hSw; have hrd : ∀ b o, b < u18.heap.size → wq.cell? ⟨b, o, none⟩ = u18.cell? ⟨b, o, none⟩ := (fun b o h => Below.cell hSw (p := ⟨b, o, none⟩) h); go_simp; try with_reducible rfl; done)); try simp only [Act.put, List.setIfInBounds_toArray, List.set_cons_zero, List.set_cons_succ])
  (refine lat_now 6 (by rfl) ?_ (by kernel_rfl) (fun _ _ _ h => h) ?_ ?_; rotate_left; (focus (intro wq hSw; have hrd : ∀ b o, b < u18.heap.size → wq.cell? ⟨b, o, none⟩ = u18.cell? ⟨b, o, none⟩ := (fun b o h => Below.cell hSw (p := ⟨b, o, none⟩) h); go_simp; try with_reducible rfl; done)); try simp only [Act.put, List.setIfInBounds_toArray, List.set_cons_zero, List.set_cons_succ])
  (refine lat_now 7 (by rfl) ?_ (by kernel_rfl) (fun _ _ _ h => h) ?_ ?_; rotate_left; (focus (intro wq hSw; have hrd : ∀ b o, b < u18.heap.size → wq.cell? ⟨b, o, none⟩ = u18.cell? ⟨b, o, none⟩ := (fun b o h => Below.cell hSw (p := ⟨b, o, none⟩) h); go_simp; try with_reducible rfl; done)); try simp only [Act.put, List.setIfInBounds_toArray, List.set_cons_zero, List.set_cons_succ])
  (refine lat_now 8 (by rfl) ?_ (by kernel_rfl) (fun _ _ _ h => h) ?_ ?_; rotate_left; (focus (intro wq hSw; have hrd : ∀ b o, b < u18.heap.size → wq.cell? ⟨b, o, none⟩ = u18.cell? ⟨b, o, none⟩ := (fun b o h => Below.cell hSw (p := ⟨b, o, none⟩) h); go_simp; try with_reducible rfl; done)); try simp only [Act.put, List.setIfInBounds_toArray, List.set_cons_zero, List.set_cons_succ])
  (refine lat_now 9 (by rfl) ?_ (by kernel_rfl) (fun _ _ _ h => h) ?_ ?_; rotate_left; (focus (intro wq hSw; have hrd : ∀ b o, b < u18.heap.size → wq.cell? ⟨b, o, none⟩ = u18.cell? ⟨b, o, none⟩ := (fun b o h => Below.cell hSw (p := ⟨b, o, none⟩) h); go_simp; try with_reducible rfl; done)); try simp only [Act.put, List.setIfInBounds_toArray, List.set_cons_zero, List.set_cons_succ])
  (refine lat_now 10 (by rfl) ?_ (by kernel_rfl) (fun _ _ _ h => h) ?_ ?_; rotate_left; (focus (intro wq hSw; have hrd : ∀ b o, b < u18.heap.size → wq.cell? ⟨b, o, none⟩ = u18.cell? ⟨b, o, none⟩ := (fun b o h => Below.cell hSw (p := ⟨b, o, none⟩) h); go_simp; try with_reducible rfl; done)); try simp only [Act.put, List.setIfInBounds_toArray, List.set_cons_zero, List.set_cons_succ])
  (refine lat_now 11 (by rfl) ?_ (by kernel_rfl) (fun _ _ _ h => h) ?_ ?_; rotate_left; (focus (intro wq hSw; have q := run_str wq (by10.nx hSw) d10; go_simp; try with_reducible rfl; done)); simp only [Act.put, List.setIfInBounds_toArray, List.set_cons_zero, List.set_cons_succ])
  (refine lat_now 12 (by rfl) ?_ (by kernel_rfl) (fun _ _ _ h => h) ?_ ?_; rotate_left; (focus (intro wq hSw; have hrd : ∀ b o, b < u18.heap.size → wq.cell? ⟨b, o, none⟩ = u18.cell? ⟨b, o, none⟩ := (fun b o h => Below.cell hSw (p := ⟨b, o, none⟩) h); go_simp; try with_reducible rfl; done)); try simp only [Act.put, List.setIfInBounds_toArray, List.set_cons_zero, List.set_cons_succ])
  (refine lat_now 13 (by rfl) ?_ (by kernel_rfl) (fun _ _ _ h => h) ?_ ?_; rotate_left; (focus (intro wq hSw; have hrd : ∀ b o, b < u18.heap.size → wq.cell? ⟨b, o, none⟩ = u18.cell? ⟨b, o, none⟩ := (fun b o h => Below.cell hSw (p := ⟨b, o, none⟩) h); go_simp; try with_reducible rfl; done)); try simp only [Act.put, List.setIfInBounds_toArray, List.set_cons_zero, List.set_cons_succ])
  (refine lat_now 14 (by rfl) ?_ (by kernel_rfl) (fun _ _ _ h => h) ?_ ?_; rotate_left; (focus (intro wq hSw; have q := run_str wq (bx8.nx hSw) q8; go_simp; try with_reducible rfl; done)); simp only [Act.put, List.setIfInBounds_toArray, List.set_cons_zero, List.set_cons_succ])
  (refine lat_now 15 (by rfl) ?_ (by kernel_rfl) (fun _ _ _ h => h) ?_ ?_; rotate_left; (focus (intro wq hSw; have hrd : ∀ b o, b < u18.heap.size → wq.cell? ⟨b, o, none⟩ = u18.cell? ⟨b, o, none⟩ := (fun b o h => Below.cell hSw (p := ⟨b, o, none⟩) h); go_simp; try with_reducible rfl; done)); try simp only [Act.put, List.setIfInBounds_toArray, List.set_cons_zero, List.set_cons_succ])
  (refine lat_now 16 (by rfl) ?_ (by kernel_rfl) (fun _ _ _ h => h) ?_ ?_; rotate_left; (focus (intro wq hSw; have hrd : ∀ b o, b < u18.heap.size → wq.cell? ⟨b, o, none⟩ = u18.cell? ⟨b, o, none⟩ := (fun b o h => Below.cell hSw (p := ⟨b, o, none⟩) h); go_simp; try with_reducible rfl; done)); try simp only [Act.put, List.setIfInBounds_toArray, List.set_cons_zero, List.set_cons_succ])
  (refine lat_now 17 (by rfl) ?_ (by kernel_rfl) (fun _ _ _ h => h) ?_ ?_; rotate_left; (focus (intro wq hSw; have hrd : ∀ b o, b < u18.heap.size → wq.cell? ⟨b, o, none⟩ = u18.cell? ⟨b, o, none⟩ := (fun b o h => Below.cell hSw (p := ⟨b, o, none⟩) h); go_simp; try with_reducible rfl; done)); try simp only [Act.put, List.setIfInBounds_toArray, List.set_cons_zero, List.set_cons_succ])
  (refine lat_now 18 (by rfl) ?_ (by kernel_rfl) (fun _ _ _ h => h) ?_ ?_; rotate_left; (focus (intro wq hSw; have hrd : ∀ b o, b < u18.heap.size → wq.cell? ⟨b, o, none⟩ = u18.cell? ⟨b, o, none⟩ := (fun b o h => Below.cell hSw (p := ⟨b, o, none⟩) h); go_simp; try with_reducible rfl; done)); try simp only [Act.put, List.setIfInBounds_toArray, List.set_cons_zero, List.set_cons_succ])
  (refine lat_now 19 (by rfl) ?_ (by kernel_rfl) (fun _ _ _ h => h) ?_ ?_; rotate_left; (focus (intro wq hSw; have hrd : ∀ b o, b < u18.heap.size → wq.cell? ⟨b, o, none⟩ = u18.cell? ⟨b, o, none⟩ := (fun b o h => Below.cell hSw (p := ⟨b, o, none⟩) h); go_simp; try with_reducible rfl; done)); try simp only [Act.put, List.setIfInBounds_toArray, List.set_cons_zero, List.set_cons_succ])
  (refine lat_now 20 (by rfl) ?_ (by kernel_rfl) (fun _ _ _ h => h) ?_ ?_; rotate_left; (focus (intro wq hSw; have hrd : ∀ b o, b < u18.heap.size → wq.cell? ⟨b, o, none⟩ = u18.cell? ⟨b, o, none⟩ := (fun b o h => Below.cell hSw (p := ⟨b, o, none⟩) h); go_simp; try with_reducible rfl; done)); try simp only [Act.put, List.setIfInBounds_toArray, List.set_cons_zero, List.set_cons_succ])
  (refine lat_now 21 (by rfl) ?_ (by kernel_rfl) (fun _ _ _ h => h) ?_ ?_; rotate_left; (focus (intro wq hSw; have hrd : ∀ b o, b < u18.heap.size → wq.cell? ⟨b, o, none⟩ = u18.cell? ⟨b, o, none⟩ := (fun b o h => Below.cell hSw (p := ⟨b, o, none⟩) h); go_simp; try with_reducible rfl; done)); try simp only [Act.put, List.setIfInBounds_toArray, List.set_cons_zero, List.set_cons_succ])
  (refine lat_now 22 (by rfl) ?_ (by kernel_rfl) (fun _ _ _ h => h) ?_ ?_; rotate_left; (focus (intro wq hSw; have hrd : ∀ b o, b < u18.heap.size → wq.cell? ⟨b, o, none⟩ = u18.cell? ⟨b, o, none⟩ := (fun b o h => Below.cell hSw (p := ⟨b, o, none⟩) h); go_simp; try with_reducible rfl; done)); try simp only [Act.put, List.setIfInBounds_toArray, List.set_cons_zero, List.set_cons_succ])
  (refine lat_now 23 (by rfl) ?_ (by kernel_rfl) (fun _ _ _ h => h) ?_ ?_; rotate_left; (focus (intro wq hSw; have hrd : ∀ b o, b < u18.heap.size → wq.cell? ⟨b, o, none⟩ = u18.cell? ⟨b, o, none⟩ := (fun b o h => Below.cell hSw (p := ⟨b, o, none⟩) h); go_simp; try with_reducible rfl; done)); try simp only [Act.put, List.setIfInBounds_toArray, List.set_cons_zero, List.set_cons_succ])
  (refine lat_now 24 (by rfl) ?_ (by kernel_rfl) (fun _ _ _ h => h) ?_ ?_; rotate_left; (focus (intro wq hSw; have hrd : ∀ b o, b < u18.heap.size → wq.cell? ⟨b, o, none⟩ = u18.cell? ⟨b, o, none⟩ := (fun b o h => Below.cell hSw (p := ⟨b, o, none⟩) h); go_simp; try with_reducible rfl; done)); try simp only [Act.put, List.setIfInBounds_toArray, List.set_cons_zero, List.set_cons_succ])
  (refine lat_now 25 (by rfl) ?_ (by kernel_rfl) (fun _ _ _ h => h) ?_ ?_; rotate_left; (focus (intro wq hSw; have q := run_str wq (by13.nx hSw) d13; go_simp; try with_reducible rfl; done)); simp only [Act.put, List.setIfInBounds_toArray, List.set_cons_zero, List.set_cons_succ])
  (refine lat_now 26 (by rfl) ?_ (by kernel_rfl) (fun _ _ _ h => h) ?_ ?_; rotate_left; (focus (intro wq hSw; have hrd : ∀ b o, b < u18.heap.size → wq.cell? ⟨b, o, none⟩ = u18.cell? ⟨b, o, none⟩ := (fun b o h => Below.cell hSw (p := ⟨b, o, none⟩) h); go_simp; try with_reducible rfl; done)); try simp only [Act.put, List.setIfInBounds_toArray, List.set_cons_zero, List.set_cons_succ])
  (refine lat_now 27 (by rfl) ?_ (by kernel_rfl) (fun _ _ _ h => h) ?_ ?_; rotate_left; (focus (intro wq hSw; have hrd : ∀ b o, b < u18.heap.size → wq.cell? ⟨b, o, none⟩ = u18.cell? ⟨b, o, none⟩ := (fun b o h => Below.cell hSw (p := ⟨b, o, none⟩) h); go_simp; try with_reducible rfl; done)); try simp only [Act.put, List.setIfInBounds_toArray, List.set_cons_zero, List.set_cons_succ])
  (refine lat_now 28 (by rfl) ?_ (by kernel_rfl) (fun _ _ _ h => h) ?_ ?_; rotate_left; (focus (intro wq hSw; have q := run_str wq (bx11.nx hSw) q11; go_simp; try with_reducible rfl; done)); simp only [Act.put, List.setIfInBounds_toArray, List.set_cons_zero, List.set_cons_succ])
  (refine lat_now 29 (by rfl) ?_ (by kernel_rfl) (fun _ _ _ h => h) ?_ ?_; rotate_left; (focus (intro wq hSw; have hrd : ∀ b o, b < u18.heap.size → wq.cell? ⟨b, o, none⟩ = u18.cell? ⟨b, o, none⟩ := (fun b o h => Below.cell hSw (p := ⟨b, o, none⟩) h); go_simp; try with_reducible rfl; done)); try simp only [Act.put, List.setIfInBounds_toArray, List.set_cons_zero, List.set_cons_succ])
  (refine lat_now 30 (by rfl) ?_ (by kernel_rfl) (fun _ _ _ h => h) ?_ ?_; rotate_left; (focus (intro wq hSw; have hrd : ∀ b o, b < u18.heap.size → wq.cell? ⟨b, o, none⟩ = u18.cell? ⟨b, o, none⟩ := (fun b o h => Below.cell hSw (p := ⟨b, o, none⟩) h); go_simp; try with_reducible rfl; done)); try simp only [Act.put, List.setIfInBounds_toArray, List.set_cons_zero, List.set_cons_succ])
  (refine lat_now 31 (by rfl) ?_ (by kernel_rfl) (fun _ _ _ h => h) ?_ ?_; rotate_left; (focus (intro wq hSw; have hrd : ∀ b o, b < u18.heap.size → wq.cell? ⟨b, o, none⟩ = u18.cell? ⟨b, o, none⟩ := (fun b o h => Below.cell hSw (p := ⟨b, o, none⟩) h); go_simp; try with_reducible rfl; done)); try simp only [Act.put, List.setIfInBounds_toArray, List.set_cons_zero, List.set_cons_succ])
  (refine lat_now 32 (by rfl) ?_ (by kernel_rfl) (fun _ _ _ h => h) ?_ ?_; rotate_left; (focus (intro wq hSw; have hrd : ∀ b o, b < u18.heap.size → wq.cell? ⟨b, o, none⟩ = u18.cell? ⟨b, o, none⟩ := (fun b o h => Below.cell hSw (p := ⟨b, o, none⟩) h); go_simp; try with_reducible rfl; done)); try simp only [Act.put, List.setIfInBounds_toArray, List.set_cons_zero, List.set_cons_succ])
  (refine lat_now 33 (by rfl) ?_ (by kernel_rfl) (fun _ _ _ h => h) ?_ ?_; rotate_left; (focus (intro wq hSw; have hrd : ∀ b o, b < u18.heap.size → wq.cell? ⟨b, o, none⟩ = u18.cell? ⟨b, o, none⟩ := (fun b o h => Below.cell hSw (p := ⟨b, o, none⟩) h); go_simp; try with_reducible rfl; done)); try simp only [Act.put, List.setIfInBounds_toArray, List.set_cons_zero, List.set_cons_succ])
  (refine lat_now 34 (by rfl) ?_ (by kernel_rfl) (fun _ _ _ h => h) ?_ ?_; rotate_left; (focus (intro wq hSw; have hrd : ∀ b o, b < u18.heap.size → wq.cell? ⟨b, o, none⟩ = u18.cell? ⟨b, o, none⟩ := (fun b o h => Below.cell hSw (p := ⟨b, o, none⟩) h); go_simp; try with_reducible rfl; done)); try simp only [Act.put, List.setIfInBounds_toArray, List.set_cons_zero, List.set_cons_succ])
  (refine lat_now 35 (by rfl) ?_ (by kernel_rfl) (fun _ _ _ h => h) ?_ ?_; rotate_left; (focus (intro wq hSw; have hrd : ∀ b o, b < u18.heap.size → wq.cell? ⟨b, o, none⟩ = u18.cell? ⟨b, o, none⟩ := (fun b o h => Below.cell hSw (p := ⟨b, o, none⟩) h); go_simp; try with_reducible rfl; done)); try simp only [Act.put, List.setIfInBounds_toArray, List.set_cons_zero, List.set_cons_succ])
  (refine lat_now 36 (by rfl) ?_ (by kernel_rfl) (fun _ _ _ h => h) ?_ ?_; rotate_left; (focus (intro wq hSw; have hrd : ∀ b o, b < u18.heap.size → wq.cell? ⟨b, o, none⟩ = u18.cell? ⟨b, o, none⟩ := (fun b o h => Below.cell hSw (p := ⟨b, o, none⟩) h); go_simp; try with_reducible rfl; done)); try simp only [Act.put, List.setIfInBounds_toArray, List.set_cons_zero, List.set_cons_succ])
  (refine lat_now 37 (by rfl) ?_ (by kernel_rfl) (fun _ _ _ h => h) ?_ ?_; rotate_left; (focus (intro wq hSw; have hrd : ∀ b o, b < u18.heap.size → wq.cell? ⟨b, o, none⟩ = u18.cell? ⟨b, o, none⟩ := (fun b o h => Below.cell hSw (p := ⟨b, o, none⟩) h); go_simp; try with_reducible rfl; done)); try simp only [Act.put, List.setIfInBounds_toArray, List.set_cons_zero, List.set_cons_succ])
  (refine lat_now 38 (by rfl) ?_ (by kernel_rfl) (fun _ _ _ h => h) ?_ ?_; rotate_left; (focus (intro wq hSw; have hrd : ∀ b o, b < u18.heap.size → wq.cell? ⟨b, o, none⟩ = u18.cell? ⟨b, o, none⟩ := (fun b o h => Below.cell hSw (p := ⟨b, o, none⟩) h); go_simp; try with_reducible rfl; done)); try simp only [Act.put, List.setIfInBounds_toArray, List.set_cons_zero, List.set_cons_succ])
  (refine lat_now 39 (by rfl) ?_ (by kernel_rfl) (fun _ _ _ h => h) ?_ ?_; rotate_left; (focus (intro wq hSw; have hrd : ∀ b o, b < u18.heap.size → wq.cell? ⟨b, o, none⟩ = u18.cell? ⟨b, o, none⟩ := (fun b o h => Below.cell hSw (p := ⟨b, o, none⟩) h); go_simp; try with_reducible rfl; done)); try simp only [Act.put, List.setIfInBounds_toArray, List.set_cons_zero, List.set_cons_succ])
  (refine lat_now 40 (by rfl) ?_ (by kernel_rfl) (fun _ _ _ h => h) ?_ ?_; rotate_left; (focus (intro wq hSw; have hrd : ∀ b o, b < u18.heap.size → wq.cell? ⟨b, o, none⟩ = u18.cell? ⟨b, o, none⟩ := (fun b o h => Below.cell hSw (p := ⟨b, o, none⟩) h); go_simp; try with_reducible rfl; done)); try simp only [Act.put, List.setIfInBounds_toArray, List.set_cons_zero, List.set_cons_succ])
  (refine lat_now 41 (by rfl) ?_ (by kernel_rfl) (fun _ _ _ h => h) ?_ ?_; rotate_left; (focus (intro wq hSw; have hrd : ∀ b o, b < u18.heap.size → wq.cell? ⟨b, o, none⟩ = u18.cell? ⟨b, o, none⟩ := (fun b o h => Below.cell hSw (p := ⟨b, o, none⟩) h); go_simp; try with_reducible rfl; done)); try simp only [Act.put, List.setIfInBounds_toArray, List.set_cons_zero, List.set_cons_succ])
  (refine lat_now 42 (by rfl) ?_ (by kernel_rfl) (fun _ _ _ h => h) ?_ ?_; rotate_left; (focus (intro wq hSw; have hrd : ∀ b o, b < u18.heap.size → wq.cell? ⟨b, o, none⟩ = u18.cell? ⟨b, o, none⟩ := (fun b o h => Below.cell hSw (p := ⟨b, o, none⟩) h); go_simp; try with_reducible rfl; done)); try simp only [Act.put, List.setIfInBounds_toArray, List.set_cons_zero, List.set_cons_succ])
  (refine lat_now 43 (by rfl) ?_ (by kernel_rfl) (fun _ _ _ h => h) ?_ ?_; rotate_left; (focus (intro wq hSw; have hrd : ∀ b o, b < u18.heap.size → wq.cell? ⟨b, o, none⟩ = u18.cell? ⟨b, o, none⟩ := (fun b o h => Below.cell hSw (p := ⟨b, o, none⟩) h); go_simp; try with_reducible rfl; done)); try simp only [Act.put, List.setIfInBounds_toArray, List.set_cons_zero, List.set_cons_succ])
  (refine lat_now 44 (by rfl) ?_ (by kernel_rfl) (fun _ _ _ h => h) ?_ ?_; rotate_left; (focus (intro wq hSw; have hrd : ∀ b o, b < u18.heap.size → wq.cell? ⟨b, o, none⟩ = u18.cell? ⟨b, o, none⟩ := (fun b o h => Below.cell hSw (p := ⟨b, o, none⟩) h); go_simp; try with_reducible rfl; done)); try simp only [Act.put, List.setIfInBounds_toArray, List.set_cons_zero, List.set_cons_succ])
  (refine lat_now 45 (by rfl) ?_ (by kernel_rfl) (fun _ _ _ h => h) ?_ ?_; rotate_left; (focus (intro wq hSw; have hrd : ∀ b o, b < u18.heap.size → wq.cell? ⟨b, o, none⟩ = u18.cell? ⟨b, o, none⟩ := (fun b o h => Below.cell hSw (p := ⟨b, o, none⟩) h); go_simp; try with_reducible rfl; done)); try simp only [Act.put, List.setIfInBounds_toArray, List.set_cons_zero, List.set_cons_succ])
  (refine lat_now 46 (by rfl) ?_ (by kernel_rfl) (fun _ _ _ h => h) ?_ ?_; rotate_left; (focus (intro wq hSw; have hrd : ∀ b o, b < u18.heap.size → wq.cell? ⟨b, o, none⟩ = u18.cell? ⟨b, o, none⟩ := (fun b o h => Below.cell hSw (p := ⟨b, o, none⟩) h); go_simp; try with_reducible rfl; done)); try simp only [Act.put, List.setIfInBounds_toArray, List.set_cons_zero, List.set_cons_succ])
  (refine lat_now 47 (by rfl) ?_ (by kernel_rfl) (fun _ _ _ h => h) ?_ ?_; rotate_left; (focus (intro wq hSw; have hrd : ∀ b o, b < u18.heap.size → wq.cell? ⟨b, o, none⟩ = u18.cell? ⟨b, o, none⟩ := (fun b o h => Below.cell hSw (p := ⟨b, o, none⟩) h); go_simp; try with_reducible rfl; done)); try simp only [Act.put, List.setIfInBounds_toArray, List.set_cons_zero, List.set_cons_succ])
  (refine lat_now 48 (by rfl) ?_ (by kernel_rfl) (fun _ _ _ h => h) ?_ ?_; rotate_left; (focus (intro wq hSw; have hrd : ∀ b o, b < u18.heap.size → wq.cell? ⟨b, o, none⟩ = u18.cell? ⟨b, o, none⟩ := (fun b o h => Below.cell hSw (p := ⟨b, o, none⟩) h); go_simp; try with_reducible rfl; done)); try simp only [Act.put, List.setIfInBounds_toArray, List.set_cons_zero, List.set_cons_succ])
  (refine lat_now 49 (by rfl) ?_ (by kernel_rfl) (fun _ _ _ h => h) ?_ ?_; rotate_left; (focus (intro wq hSw; have hrd : ∀ b o, b < u18.heap.size → wq.cell? ⟨b, o, none⟩ = u18.cell? ⟨b, o, none⟩ := (fun b o h => Below.cell hSw (p := ⟨b, o, none⟩) h); go_simp; try with_reducible rfl; done)); try simp only [Act.put, List.setIfInBounds_toArray, List.set_cons_zero, List.set_cons_succ])
  (refine lat_now 50 (by rfl) ?_ (by kernel_rfl) (fun _ _ _ h => h) ?_ ?_; rotate_left; (focus (intro wq hSw; have hrd : ∀ b o, b < u18.heap.size → wq.cell? ⟨b, o, none⟩ = u18.cell? ⟨b, o, none⟩ := (fun b o h => Below.cell hSw (p := ⟨b, o, none⟩) h); go_simp; try with_reducible rfl; done)); try simp only [Act.put, List.setIfInBounds_toArray, List.set_cons_zero, List.set_cons_succ])
  (refine lat_now 51 (by rfl) ?_ (by kernel_rfl) (fun _ _ _ h => h) ?_ ?_; rotate_left; (focus (intro wq hSw; have hrd : ∀ b o, b < u18.heap.size → wq.cell? ⟨b, o, none⟩ = u18.cell? ⟨b, o, none⟩ := (fun b o h => Below.cell hSw (p := ⟨b, o, none⟩) h); go_simp; try with_reducible rfl; done)); try simp only [Act.put, List.setIfInBounds_toArray, List.set_cons_zero, List.set_cons_succ])
  (refine lat_now 52 (by rfl) ?_ (by kernel_rfl) (fun _ _ _ h => h) ?_ ?_; rotate_left; (focus (intro wq hSw; have hrd : ∀ b o, b < u18.heap.size → wq.cell? ⟨b, o, none⟩ = u18.cell? ⟨b, o, none⟩ := (fun b o h => Below.cell hSw (p := ⟨b, o, none⟩) h); go_simp; try with_reducible rfl; done)); try simp only [Act.put, List.setIfInBounds_toArray, List.set_cons_zero, List.set_cons_succ])
  (refine lat_now 53 (by rfl) ?_ (by kernel_rfl) (fun _ _ _ h => h) ?_ ?_; rotate_left; (focus (intro wq hSw; have hrd : ∀ b o, b < u18.heap.size → wq.cell? ⟨b, o, none⟩ = u18.cell? ⟨b, o, none⟩ := (fun b o h => Below.cell hSw (p := ⟨b, o, none⟩) h); go_simp; try with_reducible rfl; done)); try simp only [Act.put, List.setIfInBounds_toArray, List.set_cons_zero, List.set_cons_succ])
  (refine lat_now 54 (by rfl) ?_ (by kernel_rfl) (fun _ _ _ h => h) ?_ ?_; rotate_left; (focus (intro wq hSw; have hrd : ∀ b o, b < u18.heap.size → wq.cell? ⟨b, o, none⟩ = u18.cell? ⟨b, o, none⟩ := (fun b o h => Below.cell hSw (p := ⟨b, o, none⟩) h); go_simp; try with_reducible rfl; done)); try simp only [Act.put, List.setIfInBounds_toArray, List.set_cons_zero, List.set_cons_succ])
  (refine lat_now 55 (by rfl) ?_ (by kernel_rfl) (fun _ _ _ h => h) ?_ ?_; rotate_left; (focus (intro wq hSw; have hrd : ∀ b o, b < u18.heap.size → wq.cell? ⟨b, o, none⟩ = u18.cell? ⟨b, o, none⟩ := (fun b o h => Below.cell hSw (p := ⟨b, o, none⟩) h); go_simp; try with_reducible rfl; done)); try simp only [Act.put, List.setIfInBounds_toArray, List.set_cons_zero, List.set_cons_succ])
  (refine lat_now 56 (by rfl) ?_ (by kernel_rfl) (fun _ _ _ h => h) ?_ ?_; rotate_left; (focus (intro wq hSw; have hrd : ∀ b o, b < u18.heap.size → wq.cell? ⟨b, o, none⟩ = u18.cell? ⟨b, o, none⟩ := (fun b o h => Below.cell hSw (p := ⟨b, o, none⟩) h); go_simp; try with_reducible rfl; done)); try simp only [Act.put, List.setIfInBounds_toArray, List.set_cons_zero, List.set_cons_succ])
  (refine lat_now 57 (by rfl) ?_ (by kernel_rfl) (fun _ _ _ h => h) ?_ ?_; rotate_left; (focus (intro wq hSw; have hrd : ∀ b o, b < u18.heap.size → wq.cell? ⟨b, o, none⟩ = u18.cell? ⟨b, o, none⟩ := (fun b o h => Below.cell hSw (p := ⟨b, o, none⟩) h); go_simp; try with_reducible rfl; done)); try simp only [Act.put, List.setIfInBounds_toArray, List.set_cons_zero, List.set_cons_succ])
  (refine lat_now 58 (by rfl) ?_ (by kernel_rfl) (fun _ _ _ h => h) ?_ ?_; rotate_left; (focus (intro wq hSw; refine exec_load_blk (x := .tmp 17) ?_ ?_ (hx18.below hSw hx18.lt) _ Try.underlying39 rfl (by kernel_rfl) <;> rfl)); simp only [Act.put, List.setIfInBounds_toArray, List.set_cons_zero, List.set_cons_succ])
  (refine lat_now 59 (by rfl) ?_ (by kernel_rfl) (fun _ _ _ h => h) ?_ ?_; rotate_left; (focus (intro wq hSw; refine exec_load_blk (x := .tmp 3) ?_ ?_ (hq.below hSw hq.lt) _ Try.underlying39 rfl (by kernel_rfl) <;> rfl)); simp only [Act.put, List.setIfInBounds_toArray, List.set_cons_zero, List.set_cons_succ])
  (refine lat_late 60 (by rfl) (.bool true) (by kernel_rfl) (fun _ _ _ h => h) (fun wq hSw => ⟨_, _, ?_, (attrSame_any wq o X18 m18 d18 zs h m b o A n c zs h m b (hN18.nx hSw) (hN.nx hSw) (by have := hN18.1; have := hnl.out; omega)).mono fun e w' hh => ⟨hh.1.trans (ret_bool (sameA_refl _ _ _ _ _)), hh.2⟩⟩) ?_; focus (go_simp; try with_reducible rfl; done); try simp only [Act.put, List.setIfInBounds_toArray, List.set_cons_zero, List.set_cons_succ])
  (refine lat_now 61 (by rfl) ?_ (by kernel_rfl) (fun _ _ _ h => h) ?_ ?_; rotate_left; (focus (intro wq hSw; have hrd : ∀ b o, b < u18.heap.size → wq.cell? ⟨b, o, none⟩ = u18.cell? ⟨b, o, none⟩ := (fun b o h => Below.cell hSw (p := ⟨b, o, none⟩) h); go_simp; try with_reducible rfl; done)); try simp only [Act.put, List.setIfInBounds_toArray, List.set_cons_zero, List.set_cons_succ])
  (refine lat_now 62 (by rfl) ?_ (by kernel_rfl) (fun _ _ _ h => h) ?_ ?_; rotate_left; (focus (intro wq hSw; have hrd : ∀ b o, b < u18.heap.size → wq.cell? ⟨b, o, none⟩ = u18.cell? ⟨b, o, none⟩ := (fun b o h => Below.cell hSw (p := ⟨b, o, none⟩) h); go_simp; try with_reducible rfl; done)); try simp only [Act.put, List.setIfInBounds_toArray, List.set_cons_zero, List.set_cons_succ])
  (refine lat_late 63 (by rfl) (.bool true) (by kernel_rfl) (fun _ _ _ h => h) (fun wq hSw => ⟨_, _, ?_, lives7_any wq⟩) ?_; focus (go_simp; try with_reducible rfl; done); try simp only [Act.put, List.setIfInBounds_toArray, List.set_cons_zero, List.set_cons_succ])
  (refine lat_now 64 (by rfl) ?_ (by kernel_rfl) (fun _ _ _ h => h) ?_ ?_; rotate_left; (focus (intro wq hSw; have hrd : ∀ b o, b < u18.heap.size → wq.cell? ⟨b, o, none⟩ = u18.cell? ⟨b, o, none⟩ := (fun b o h => Below.cell hSw (p := ⟨b, o, none⟩) h); go_simp; try with_reducible rfl; done)); try simp only [Act.put, List.setIfInBounds_toArray, List.set_cons_zero, List.set_cons_succ])
  (refine lat_now 65 (by rfl) ?_ (by kernel_rfl) (fun _ _ _ h => h) ?_ ?_; rotate_left; (focus (intro wq hSw; have hrd : ∀ b o, b < u18.heap.size → wq.cell? ⟨b, o, none⟩ = u18.cell? ⟨b, o, none⟩ := (fun b o h => Below.cell hSw (p := ⟨b, o, none⟩) h); go_simp; try with_reducible rfl; done)); try simp only [Act.put, List.setIfInBounds_toArray, List.set_cons_zero, List.set_cons_succ])
  refine lat_done (by kernel_rfl) (fun wz hz => ?_) _
  try refine NoPanic.normal ?_
  go_wp2_with fail
  go_ret
  exact ⟨rfl, hB.trans (hz.mono hB.size)⟩
end Go.Proofs.Ytlpplclhjkbjbaa
